-- Made by drive.py (a program of this session) over the kit's print; not written line by line by a hand.
import Derived.Test.YtnbnpgjgibcmpaaP0
import Derived.Test.YtnbnpgjgibcmpaaP_impl_indented
import Derived.Test.YtnbnpgjgibcmpaaP_impl_shapeOk
import Derived.Test.YtnbnpgjgibcmpaaP_laws_eqStringS
import Derived.Test.YtnbnpgjgibcmpaaP_laws_szStringS
import Derived.Test.YtnbnpgjgibcmpaaP_spec_l5Block
namespace Go.Proofs.Ytnbnpgjgibcmpaa.P
open Go.RowKit Go.Proofs.YtnbnpgjgibcmpaaW.PrintWords Go.Proofs.YtnbnpgjgibcmpaaW.PrintLast Go.Proofs.YtnbnpgjgibcmpaaW.PrintMore
attribute [local go_sem] max2_int min2_int max_two min_two max_three min_three max_four min_four   -- for this text's walks alone
set_option linter.unusedVariables false
set_option linter.unusedSimpArgs false

/-! ### impl_Indented: function 71 -/
def impl_Indented.f (k : Nat) (a0_0 : Int) (a0_1 : Int) (a0_2 : ByteArray) (l0_3 : List ByteArray) (l0_4 : List (S25)) : Option (ByteArray) := (impl_TreeOk.f k a0_0 a0_1 a0_2 l0_3 l0_4).bind fun t1408 => (if t1408 = true then ((impl_indented.f k a0_0 a0_1 a0_2 l0_3 l0_4 0).bind fun t1409 => (some t1409)) else (some (⟨#[]⟩ : ByteArray)))
theorem impl_Indented.mono : ∀ a0 a1 a2 a3 a4 k, LeO (impl_Indented.f k a0 a1 a2 a3 a4) (impl_Indented.f (k + 1) a0 a1 a2 a3 a4) := by
  intro a0 a1 a2 a3 a4 k
  unfold impl_Indented.f
  repeat' first
      | (with_reducible exact impl_TreeOk.mono _ _ _ _ _ _)
      | (with_reducible exact impl_indented.mono _ _ _ _ _ _ _)
      | (with_reducible exact LeO.refl _)
      | (with_reducible exact LeO.none _)
      | (with_reducible refine LeO.ite ?_ ?_)
      | (with_reducible refine LeO.bind ?_ (fun _ => ?_))
      | exact impl_TreeOk.mono _ _ _ _ _ _
      | exact impl_indented.mono _ _ _ _ _ _ _
      | exact LeO.none _
      | refine LeO.ite ?_ ?_
      | refine LeO.bind ?_ (fun _ => ?_)
set_option maxHeartbeats 8000000 in
set_option maxRecDepth 100000 in
theorem impl_Indented.calls (k : Nat) (a0_0 : Int) (a0_1 : Int) (a0_2 : ByteArray) (A0_3 : Option Addr) (c0_3 : Nat) (l0_3 : List ByteArray) (A0_4 : Option Addr) (c0_4 : Nat) (l0_4 : List (S25)) (r : ByteArray) (w : World) (hr0_3 : Kd.C Kd.string w A0_3 l0_3.length l0_3) (hc0_3 : l0_3.length ≤ c0_3) (hr0_4 : Kd.C k25 w A0_4 l0_4.length l0_4) (hc0_4 : l0_4.length ≤ c0_4) (h : impl_Indented.f k a0_0 a0_1 a0_2 l0_3 l0_4 = some r) :
    Calls Try.prog 71 #[.agg #[.int .i64 a0_0, .int .i64 a0_1, .string a0_2, .slice A0_3 l0_3.length c0_3, .slice A0_4 l0_4.length c0_4]] w fun e w' => e = .returned (.string r) ∧ Below w.heap.size w w' := by
  have hu25 := Try.underlying25
  have HR0_3 := Aside0.mk hr0_3
  have HC0_3 := Aside0.mk hc0_3
  clear hr0_3 hc0_3
  have HR0_4 := Aside0.mk hr0_4
  have HC0_4 := Aside0.mk hc0_4
  clear hr0_4 hc0_4
  have HB := Aside0.mk (Below.refl w.heap.size w)
  have H : ((impl_TreeOk.f k a0_0 a0_1 a0_2 l0_3 l0_4).bind fun t1408 => (if t1408 = true then ((impl_indented.f k a0_0 a0_1 a0_2 l0_3 l0_4 0).bind fun t1409 => (some t1409)) else (some (⟨#[]⟩ : ByteArray)))) = some r := h
  clear h
  replace H := Option.bind_eq_some_iff.mp H
  obtain ⟨t1408, A20, H⟩ := H
  replace H : (if t1408 = true then ((impl_indented.f k a0_0 a0_1 a0_2 l0_3 l0_4 0).bind fun t1409 => (some t1409)) else (some (⟨#[]⟩ : ByteArray))) = some r := H
  have A2 := Aside0.mk A20
  clear A20
  have HC3 := Aside0.mk H
  clear H
  go_enter Try.func71, Try.ntmps71
  go_upto_if 5 with (first | ((with_reducible refine gate_dst (N := 1) rfl ?_); refine box_event ?hg (N := 1) ?hd (cs := #[.int .i64 a0_0, .int .i64 a0_1, .string a0_2, .slice A0_3 l0_3.length c0_3, .slice A0_4 l0_4.length c0_4]) (t := 25) ?hr ?_; (case hd => rfl); (case hg => rfl); (case hr => first | (go_simp; done) | (go_simp; rfl)); intro gb1407 hg w4 hbox hb; have n0_ := Aside0.mk (below_step (by repeat (first | (with_reducible first | exact HB.out | apply below_alloc | apply pw_below_drewN | apply below_drew1) | exact HB.out)) hb); have n1_ := Aside0.mk (hbox); have n2_ := Aside0.mk ((by rw [hg]; exact (below_size (by repeat (first | (with_reducible first | exact HB.out | apply below_alloc | apply pw_below_drewN | apply below_drew1) | exact HB.out))) : w.heap.size ≤ gb1407)); have n3_ := Aside0.mk ((by rw [hg]; exact (below_size (by repeat (first | (with_reducible first | exact HB.out | apply below_alloc | apply pw_below_drewN | apply below_drew1) | exact HB.out))) : w.heap.size ≤ gb1407)); clear HB; have HB := n0_; have BK1407 := n1_; have GW1407 := n2_; have GE1407 := n3_; clear n0_ n1_ n2_ n3_; clear hb hbox hg; have hcz5_0 : w4.cell? ⟨gb1407, 0, none⟩ = some (.int .i64 a0_0) := (blk_cell BK1407.out 0).trans rfl; have hcz5_1 : w4.cell? ⟨gb1407, 1, none⟩ = some (.int .i64 a0_1) := (blk_cell BK1407.out 1).trans rfl; have hcz5_2 : w4.cell? ⟨gb1407, 2, none⟩ = some (.string a0_2) := (blk_cell BK1407.out 2).trans rfl; have hcz5_3 : w4.cell? ⟨gb1407, 3, none⟩ = some (.slice A0_3 l0_3.length c0_3) := (blk_cell BK1407.out 3).trans rfl; have hcz5_4 : w4.cell? ⟨gb1407, 4, none⟩ = some (.slice A0_4 l0_4.length c0_4) := (blk_cell BK1407.out 4).trans rfl; have hfz5_0 := blk_frozen BK1407.out 0; have hfz5_1 := blk_frozen BK1407.out 1; have hfz5_2 := blk_frozen BK1407.out 2; have hfz5_3 := blk_frozen BK1407.out 3; have hfz5_4 := blk_frozen BK1407.out 4) | ((with_reducible refine gate_callee (f := 46) rfl ?_); refine goesL_ (some 4) rfl rfl Try.func46 (by kernel_rfl) rfl #[.agg #[.int .i64 a0_0, .int .i64 a0_1, .string a0_2, .slice A0_3 l0_3.length c0_3, .slice A0_4 l0_4.length c0_4]] rfl (by (try simp only [List.map_toArray, List.map_cons, List.map_nil]); first | done | rfl | (simp only [List.length_drop, List.length_take]; rfl)) ?_; (with_reducible refine (impl_TreeOk.calls k a0_0 a0_1 a0_2 _ _ l0_3 _ _ l0_4 t1408 _ ?side1 ?side2 ?side3 ?side4 A2.out).mono ?_); (case side1 => repeat (first | exact (Kd.C_below HR0_3.out HB.out) | (with_reducible refine Kd.C_alloc ?_ _) | (with_reducible refine Kd.C_drewN ?_ _) | (with_reducible refine Kd.C_drew ?_))); (case side2 => exact HC0_3.out); (case side3 => repeat (first | exact (Kd.C_below HR0_4.out HB.out) | (with_reducible refine Kd.C_alloc ?_ _) | (with_reducible refine Kd.C_drewN ?_ _) | (with_reducible refine Kd.C_drew ?_))); (case side4 => exact HC0_4.out); rintro e w6 ⟨rfl, hb⟩; refine ⟨_, rfl, ?_⟩; have n0_ := Aside0.mk (blk_below (g := gb1407) (o := .cells #[.int .i64 a0_0, .int .i64 a0_1, .string a0_2, .slice A0_3 l0_3.length c0_3, .slice A0_4 l0_4.length c0_4] 25 (0, 0)) (by (with_reducible repeat (first | refine blk_drewN ?_ _ | refine blk_drew ?_ | refine blk_alloc ?_ _)); exact BK1407.out) hb); have n1_ := Aside0.mk (below_step (by repeat (first | (with_reducible first | exact HB.out | apply below_alloc | apply pw_below_drewN | apply below_drew1 | refine below_set ?_ GE1407.out) | exact HB.out)) hb); clear BK1407; clear HB; have BK1407 := n0_; have HB := n1_; clear n0_ n1_; (try clear hb); (try clear hb2); (try clear hk); (try clear hi)))
  (try simp only [Act.put, List.setIfInBounds_toArray, List.set_cons_zero, List.set_cons_succ])
  have H := HC3.out
  clear HC3
  by_cases c7 : t1408 = true
  · subst c7
    have H1 : ((impl_indented.f k a0_0 a0_1 a0_2 l0_3 l0_4 0).bind fun t1409 => (some t1409)) = some r := by rw [if_pos rfl] at H; exact H
    clear H
    have H := H1
    clear H1
    replace H := Option.bind_eq_some_iff.mp H
    obtain ⟨t1409, A80, H⟩ := H
    replace H : (some t1409) = some r := H
    have A8 := Aside0.mk A80
    clear A80
    obtain rfl := Option.some.inj H
    have hcz9_0 : w6.cell? ⟨gb1407, 0, none⟩ = some (.int .i64 a0_0) := (blk_cell BK1407.out 0).trans rfl
    have hcz9_1 : w6.cell? ⟨gb1407, 1, none⟩ = some (.int .i64 a0_1) := (blk_cell BK1407.out 1).trans rfl
    have hcz9_2 : w6.cell? ⟨gb1407, 2, none⟩ = some (.string a0_2) := (blk_cell BK1407.out 2).trans rfl
    have hcz9_3 : w6.cell? ⟨gb1407, 3, none⟩ = some (.slice A0_3 l0_3.length c0_3) := (blk_cell BK1407.out 3).trans rfl
    have hcz9_4 : w6.cell? ⟨gb1407, 4, none⟩ = some (.slice A0_4 l0_4.length c0_4) := (blk_cell BK1407.out 4).trans rfl
    have hfz9_0 := blk_frozen BK1407.out 0
    have hfz9_1 := blk_frozen BK1407.out 1
    have hfz9_2 := blk_frozen BK1407.out 2
    have hfz9_3 := blk_frozen BK1407.out 3
    have hfz9_4 := blk_frozen BK1407.out 4
    go_wp2_with (first | ((with_reducible refine gate_callee (f := 121) rfl ?_); refine goesL_ (some 7) rfl rfl Try.func121 (by kernel_rfl) rfl #[.agg #[.int .i64 a0_0, .int .i64 a0_1, .string a0_2, .slice A0_3 l0_3.length c0_3, .slice A0_4 l0_4.length c0_4], .int .i64 0] rfl (by (try simp only [List.map_toArray, List.map_cons, List.map_nil]); first | done | rfl | (simp only [List.length_drop, List.length_take]; rfl)) ?_; (with_reducible refine (impl_indented.calls k a0_0 a0_1 a0_2 _ _ l0_3 _ _ l0_4 0 t1409 _ ?side1 ?side2 ?side3 ?side4 A8.out).mono ?_); (case side1 => repeat (first | exact (Kd.C_below HR0_3.out HB.out) | (with_reducible refine Kd.C_alloc ?_ _) | (with_reducible refine Kd.C_drewN ?_ _) | (with_reducible refine Kd.C_drew ?_))); (case side2 => exact HC0_3.out); (case side3 => repeat (first | exact (Kd.C_below HR0_4.out HB.out) | (with_reducible refine Kd.C_alloc ?_ _) | (with_reducible refine Kd.C_drewN ?_ _) | (with_reducible refine Kd.C_drew ?_))); (case side4 => exact HC0_4.out); rintro e w10 ⟨rfl, hb⟩; refine ⟨_, rfl, ?_⟩; have n0_ := Aside0.mk (blk_below (g := gb1407) (o := .cells #[.int .i64 a0_0, .int .i64 a0_1, .string a0_2, .slice A0_3 l0_3.length c0_3, .slice A0_4 l0_4.length c0_4] 25 (0, 0)) (by (with_reducible repeat (first | refine blk_drewN ?_ _ | refine blk_drew ?_ | refine blk_alloc ?_ _)); exact BK1407.out) hb); have n1_ := Aside0.mk (below_step (by repeat (first | (with_reducible first | exact HB.out | apply below_alloc | apply pw_below_drewN | apply below_drew1 | refine below_set ?_ GE1407.out) | exact HB.out)) hb); clear BK1407; clear HB; have BK1407 := n0_; have HB := n1_; clear n0_ n1_; (try clear hb); (try clear hb2); (try clear hk); (try clear hi)))
    go_ret
    exact ⟨by first | rfl | (simp [errW_none, errW_some] <;> rfl) | (simp [*, errW_none, errW_some] <;> rfl), by repeat (first | (with_reducible first | exact HB.out | apply below_alloc | apply pw_below_drewN | apply below_drew1 | refine below_set ?_ GE1407.out) | exact HB.out)⟩
  · replace c7 := Bool.eq_false_iff.mpr c7
    subst c7
    have H1 : (some (⟨#[]⟩ : ByteArray)) = some r := by rw [if_neg (show ¬ (false = true) by decide)] at H; exact H
    clear H
    have H := H1
    clear H1
    obtain rfl := Option.some.inj H
    go_wp2
    go_ret
    exact ⟨by first | rfl | (simp [errW_none, errW_some] <;> rfl) | (simp [*, errW_none, errW_some] <;> rfl), by repeat (first | (with_reducible first | exact HB.out | apply below_alloc | apply pw_below_drewN | apply below_drew1 | refine below_set ?_ GE1407.out) | exact HB.out)⟩

/-! ### laws_FnExactIndented: function 18 -/
def laws_FnExactIndented.f (k : Nat) (a0_0 : Int) (a0_1 : Int) (a0_2 : ByteArray) (l0_3 : List ByteArray) (l0_4 : List (S36)) : Option (Bool) := (laws_szNode.f k a0_0 a0_1 a0_2 l0_3 l0_4 1048576).bind fun t1411 => (if t1411 < 0 then (some true) else ((laws_toNode.f k a0_0 a0_1 a0_2 l0_3 l0_4).bind fun bt1412 => ((spec_Indented.f k bt1412.1 bt1412.2.1 bt1412.2.2.1 bt1412.2.2.2.1 bt1412.2.2.2.2).bind fun t1421 => ((laws_toNode.f k a0_0 a0_1 a0_2 l0_3 l0_4).bind fun bt1422 => ((impl_Indented.f k bt1422.1 bt1422.2.1 bt1422.2.2.1 bt1422.2.2.2.1 bt1422.2.2.2.2).bind fun t1432 => (if t1432.toList = t1421.toList then ((laws_toNode.f k a0_0 a0_1 a0_2 l0_3 l0_4).bind fun bt1433 => ((laws_eqNode.f k bt1422.1 bt1422.2.1 bt1422.2.2.1 bt1422.2.2.2.1 bt1422.2.2.2.2 bt1433.1 bt1433.2.1 bt1433.2.2.1 bt1433.2.2.2.1 bt1433.2.2.2.2).bind fun t1442 => (if t1442 = true then (some true) else (some false)))) else (some false)))))))
theorem laws_FnExactIndented.mono : ∀ a0 a1 a2 a3 a4 k, LeO (laws_FnExactIndented.f k a0 a1 a2 a3 a4) (laws_FnExactIndented.f (k + 1) a0 a1 a2 a3 a4) := by
  intro a0 a1 a2 a3 a4 k
  unfold laws_FnExactIndented.f
  repeat' first
      | (with_reducible exact impl_Indented.mono _ _ _ _ _ _)
      | (with_reducible exact laws_eqNode.mono _ _ _ _ _ _ _ _ _ _ _)
      | (with_reducible exact laws_szNode.mono _ _ _ _ _ _ _)
      | (with_reducible exact laws_toNode.mono _ _ _ _ _ _)
      | (with_reducible exact spec_Indented.mono _ _ _ _ _ _)
      | (with_reducible exact LeO.refl _)
      | (with_reducible exact LeO.none _)
      | (with_reducible refine LeO.ite ?_ ?_)
      | (with_reducible refine LeO.bind ?_ (fun _ => ?_))
      | exact impl_Indented.mono _ _ _ _ _ _
      | exact laws_eqNode.mono _ _ _ _ _ _ _ _ _ _ _
      | exact laws_szNode.mono _ _ _ _ _ _ _
      | exact laws_toNode.mono _ _ _ _ _ _
      | exact spec_Indented.mono _ _ _ _ _ _
      | exact LeO.none _
      | refine LeO.ite ?_ ?_
      | refine LeO.bind ?_ (fun _ => ?_)
set_option maxHeartbeats 8000000 in
set_option maxRecDepth 100000 in
theorem laws_FnExactIndented.calls (k : Nat) (a0_0 : Int) (a0_1 : Int) (a0_2 : ByteArray) (A0_3 : Option Addr) (c0_3 : Nat) (l0_3 : List ByteArray) (A0_4 : Option Addr) (c0_4 : Nat) (l0_4 : List (S36)) (r : Bool) (w : World) (hr0_3 : Kd.C Kd.string w A0_3 l0_3.length l0_3) (hc0_3 : l0_3.length ≤ c0_3) (hr0_4 : Kd.C k36 w A0_4 l0_4.length l0_4) (hc0_4 : l0_4.length ≤ c0_4) (h : laws_FnExactIndented.f k a0_0 a0_1 a0_2 l0_3 l0_4 = some r) :
    Calls Try.prog 18 #[.agg #[.int .i64 a0_0, .int .i64 a0_1, .string a0_2, .slice A0_3 l0_3.length c0_3, .slice A0_4 l0_4.length c0_4]] w fun e w' => e = .returned (.bool r) ∧ Below w.heap.size w w' := by
  have hu36 := Try.underlying36
  have hu25 := Try.underlying25
  have HR0_3 := Aside0.mk hr0_3
  have HC0_3 := Aside0.mk hc0_3
  clear hr0_3 hc0_3
  have HR0_4 := Aside0.mk hr0_4
  have HC0_4 := Aside0.mk hc0_4
  clear hr0_4 hc0_4
  have HB := Aside0.mk (Below.refl w.heap.size w)
  have H : ((laws_szNode.f k a0_0 a0_1 a0_2 l0_3 l0_4 1048576).bind fun t1411 => (if t1411 < 0 then (some true) else ((laws_toNode.f k a0_0 a0_1 a0_2 l0_3 l0_4).bind fun bt1412 => ((spec_Indented.f k bt1412.1 bt1412.2.1 bt1412.2.2.1 bt1412.2.2.2.1 bt1412.2.2.2.2).bind fun t1421 => ((laws_toNode.f k a0_0 a0_1 a0_2 l0_3 l0_4).bind fun bt1422 => ((impl_Indented.f k bt1422.1 bt1422.2.1 bt1422.2.2.1 bt1422.2.2.2.1 bt1422.2.2.2.2).bind fun t1432 => (if t1432.toList = t1421.toList then ((laws_toNode.f k a0_0 a0_1 a0_2 l0_3 l0_4).bind fun bt1433 => ((laws_eqNode.f k bt1422.1 bt1422.2.1 bt1422.2.2.1 bt1422.2.2.2.1 bt1422.2.2.2.2 bt1433.1 bt1433.2.1 bt1433.2.2.1 bt1433.2.2.2.1 bt1433.2.2.2.2).bind fun t1442 => (if t1442 = true then (some true) else (some false)))) else (some false)))))))) = some r := h
  clear h
  replace H := Option.bind_eq_some_iff.mp H
  obtain ⟨t1411, A20, H⟩ := H
  replace H : (if t1411 < 0 then (some true) else ((laws_toNode.f k a0_0 a0_1 a0_2 l0_3 l0_4).bind fun bt1412 => ((spec_Indented.f k bt1412.1 bt1412.2.1 bt1412.2.2.1 bt1412.2.2.2.1 bt1412.2.2.2.2).bind fun t1421 => ((laws_toNode.f k a0_0 a0_1 a0_2 l0_3 l0_4).bind fun bt1422 => ((impl_Indented.f k bt1422.1 bt1422.2.1 bt1422.2.2.1 bt1422.2.2.2.1 bt1422.2.2.2.2).bind fun t1432 => (if t1432.toList = t1421.toList then ((laws_toNode.f k a0_0 a0_1 a0_2 l0_3 l0_4).bind fun bt1433 => ((laws_eqNode.f k bt1422.1 bt1422.2.1 bt1422.2.2.1 bt1422.2.2.2.1 bt1422.2.2.2.2 bt1433.1 bt1433.2.1 bt1433.2.2.1 bt1433.2.2.2.1 bt1433.2.2.2.2).bind fun t1442 => (if t1442 = true then (some true) else (some false)))) else (some false))))))) = some r := H
  have A2 := Aside0.mk A20
  clear A20
  have HC3 := Aside0.mk H
  clear H
  go_enter Try.func18, Try.ntmps18
  go_upto_if 11 with (first | ((with_reducible refine gate_dst (N := 1) rfl ?_); refine box_event ?hg (N := 1) ?hd (cs := #[.int .i64 a0_0, .int .i64 a0_1, .string a0_2, .slice A0_3 l0_3.length c0_3, .slice A0_4 l0_4.length c0_4]) (t := 36) ?hr ?_; (case hd => rfl); (case hg => rfl); (case hr => first | (go_simp; done) | (go_simp; rfl)); intro gb1410 hg w4 hbox hb; have n0_ := Aside0.mk (below_step (by repeat (first | (with_reducible first | exact HB.out | apply below_alloc | apply pw_below_drewN | apply below_drew1) | exact HB.out)) hb); have n1_ := Aside0.mk (hbox); have n2_ := Aside0.mk ((by rw [hg]; exact (below_size (by repeat (first | (with_reducible first | exact HB.out | apply below_alloc | apply pw_below_drewN | apply below_drew1) | exact HB.out))) : w.heap.size ≤ gb1410)); have n3_ := Aside0.mk ((by rw [hg]; exact (below_size (by repeat (first | (with_reducible first | exact HB.out | apply below_alloc | apply pw_below_drewN | apply below_drew1) | exact HB.out))) : w.heap.size ≤ gb1410)); clear HB; have HB := n0_; have BK1410 := n1_; have GW1410 := n2_; have GE1410 := n3_; clear n0_ n1_ n2_ n3_; clear hb hbox hg; have hcz5_0 : w4.cell? ⟨gb1410, 0, none⟩ = some (.int .i64 a0_0) := (blk_cell BK1410.out 0).trans rfl; have hcz5_1 : w4.cell? ⟨gb1410, 1, none⟩ = some (.int .i64 a0_1) := (blk_cell BK1410.out 1).trans rfl; have hcz5_2 : w4.cell? ⟨gb1410, 2, none⟩ = some (.string a0_2) := (blk_cell BK1410.out 2).trans rfl; have hcz5_3 : w4.cell? ⟨gb1410, 3, none⟩ = some (.slice A0_3 l0_3.length c0_3) := (blk_cell BK1410.out 3).trans rfl; have hcz5_4 : w4.cell? ⟨gb1410, 4, none⟩ = some (.slice A0_4 l0_4.length c0_4) := (blk_cell BK1410.out 4).trans rfl; have hfz5_0 := blk_frozen BK1410.out 0; have hfz5_1 := blk_frozen BK1410.out 1; have hfz5_2 := blk_frozen BK1410.out 2; have hfz5_3 := blk_frozen BK1410.out 3; have hfz5_4 := blk_frozen BK1410.out 4) | ((with_reducible refine gate_callee (f := 28) rfl ?_); refine goesL_ (some 9) rfl rfl Try.func28 (by kernel_rfl) rfl #[.agg #[.int .i64 a0_0, .int .i64 a0_1, .string a0_2, .slice A0_3 l0_3.length c0_3, .slice A0_4 l0_4.length c0_4], .int .i64 1048576] rfl (by (try simp only [List.map_toArray, List.map_cons, List.map_nil]); first | done | rfl | (simp only [List.length_drop, List.length_take]; rfl)) ?_; (with_reducible refine (laws_szNode.calls k a0_0 a0_1 a0_2 _ _ l0_3 _ _ l0_4 1048576 t1411 _ ?side1 ?side2 ?side3 ?side4 A2.out).mono ?_); (case side1 => repeat (first | exact (Kd.C_below HR0_3.out HB.out) | (with_reducible refine Kd.C_alloc ?_ _) | (with_reducible refine Kd.C_drewN ?_ _) | (with_reducible refine Kd.C_drew ?_))); (case side2 => exact HC0_3.out); (case side3 => repeat (first | exact (Kd.C_below HR0_4.out HB.out) | (with_reducible refine Kd.C_alloc ?_ _) | (with_reducible refine Kd.C_drewN ?_ _) | (with_reducible refine Kd.C_drew ?_))); (case side4 => exact HC0_4.out); rintro e w6 ⟨rfl, hb⟩; refine ⟨_, rfl, ?_⟩; have n0_ := Aside0.mk (blk_below (g := gb1410) (o := .cells #[.int .i64 a0_0, .int .i64 a0_1, .string a0_2, .slice A0_3 l0_3.length c0_3, .slice A0_4 l0_4.length c0_4] 36 (0, 0)) (by (with_reducible repeat (first | refine blk_drewN ?_ _ | refine blk_drew ?_ | refine blk_alloc ?_ _)); exact BK1410.out) hb); have n1_ := Aside0.mk (below_step (by repeat (first | (with_reducible first | exact HB.out | apply below_alloc | apply pw_below_drewN | apply below_drew1 | refine below_set ?_ GE1410.out) | exact HB.out)) hb); clear BK1410; clear HB; have BK1410 := n0_; have HB := n1_; clear n0_ n1_; (try clear hb); (try clear hb2); (try clear hk); (try clear hi)))
  (try simp only [Act.put, List.setIfInBounds_toArray, List.set_cons_zero, List.set_cons_succ])
  have H := HC3.out
  clear HC3
  by_cases c7 : t1411 < 0
  · rw [if_pos c7] at H
    have c7b0 : decide (t1411 < 0) = true := decide_eq_true c7
    clear c7
    (first | rw [c7b0] | (simp only [i64_w, i32_w]; rw [c7b0]) | skip)
    obtain rfl := Option.some.inj H
    go_wp2
    go_ret
    exact ⟨by first | rfl | (simp [errW_none, errW_some] <;> rfl) | (simp [*, errW_none, errW_some] <;> rfl), by repeat (first | (with_reducible first | exact HB.out | apply below_alloc | apply pw_below_drewN | apply below_drew1 | refine below_set ?_ GE1410.out) | exact HB.out)⟩
  · rw [if_neg c7] at H
    have c7b0 : decide (t1411 < 0) = false := decide_eq_false c7
    clear c7
    (first | rw [c7b0] | (simp only [i64_w, i32_w]; rw [c7b0]) | skip)
    replace H := Option.bind_eq_some_iff.mp H
    obtain ⟨⟨t1412, t1413, t1414, t1415, t1418⟩, A80, H⟩ := H
    replace H : ((spec_Indented.f k t1412 t1413 t1414 t1415 t1418).bind fun t1421 => ((laws_toNode.f k a0_0 a0_1 a0_2 l0_3 l0_4).bind fun bt1422 => ((impl_Indented.f k bt1422.1 bt1422.2.1 bt1422.2.2.1 bt1422.2.2.2.1 bt1422.2.2.2.2).bind fun t1432 => (if t1432.toList = t1421.toList then ((laws_toNode.f k a0_0 a0_1 a0_2 l0_3 l0_4).bind fun bt1433 => ((laws_eqNode.f k bt1422.1 bt1422.2.1 bt1422.2.2.1 bt1422.2.2.2.1 bt1422.2.2.2.2 bt1433.1 bt1433.2.1 bt1433.2.2.1 bt1433.2.2.2.1 bt1433.2.2.2.2).bind fun t1442 => (if t1442 = true then (some true) else (some false)))) else (some false))))) = some r := H
    have A8 := Aside0.mk A80
    clear A80
    replace H := Option.bind_eq_some_iff.mp H
    obtain ⟨t1421, A90, H⟩ := H
    replace H : ((laws_toNode.f k a0_0 a0_1 a0_2 l0_3 l0_4).bind fun bt1422 => ((impl_Indented.f k bt1422.1 bt1422.2.1 bt1422.2.2.1 bt1422.2.2.2.1 bt1422.2.2.2.2).bind fun t1432 => (if t1432.toList = t1421.toList then ((laws_toNode.f k a0_0 a0_1 a0_2 l0_3 l0_4).bind fun bt1433 => ((laws_eqNode.f k bt1422.1 bt1422.2.1 bt1422.2.2.1 bt1422.2.2.2.1 bt1422.2.2.2.2 bt1433.1 bt1433.2.1 bt1433.2.2.1 bt1433.2.2.2.1 bt1433.2.2.2.2).bind fun t1442 => (if t1442 = true then (some true) else (some false)))) else (some false)))) = some r := H
    have A9 := Aside0.mk A90
    clear A90
    replace H := Option.bind_eq_some_iff.mp H
    obtain ⟨⟨t1422, t1423, t1424, t1425, t1428⟩, A100, H⟩ := H
    replace H : ((impl_Indented.f k t1422 t1423 t1424 t1425 t1428).bind fun t1432 => (if t1432.toList = t1421.toList then ((laws_toNode.f k a0_0 a0_1 a0_2 l0_3 l0_4).bind fun bt1433 => ((laws_eqNode.f k t1422 t1423 t1424 t1425 t1428 bt1433.1 bt1433.2.1 bt1433.2.2.1 bt1433.2.2.2.1 bt1433.2.2.2.2).bind fun t1442 => (if t1442 = true then (some true) else (some false)))) else (some false))) = some r := H
    have A10 := Aside0.mk A100
    clear A100
    replace H := Option.bind_eq_some_iff.mp H
    obtain ⟨t1432, A110, H⟩ := H
    replace H : (if t1432.toList = t1421.toList then ((laws_toNode.f k a0_0 a0_1 a0_2 l0_3 l0_4).bind fun bt1433 => ((laws_eqNode.f k t1422 t1423 t1424 t1425 t1428 bt1433.1 bt1433.2.1 bt1433.2.2.1 bt1433.2.2.2.1 bt1433.2.2.2.2).bind fun t1442 => (if t1442 = true then (some true) else (some false)))) else (some false)) = some r := H
    have A11 := Aside0.mk A110
    clear A110
    have HC12 := Aside0.mk H
    clear H
    have hcz13_0 : w6.cell? ⟨gb1410, 0, none⟩ = some (.int .i64 a0_0) := (blk_cell BK1410.out 0).trans rfl
    have hcz13_1 : w6.cell? ⟨gb1410, 1, none⟩ = some (.int .i64 a0_1) := (blk_cell BK1410.out 1).trans rfl
    have hcz13_2 : w6.cell? ⟨gb1410, 2, none⟩ = some (.string a0_2) := (blk_cell BK1410.out 2).trans rfl
    have hcz13_3 : w6.cell? ⟨gb1410, 3, none⟩ = some (.slice A0_3 l0_3.length c0_3) := (blk_cell BK1410.out 3).trans rfl
    have hcz13_4 : w6.cell? ⟨gb1410, 4, none⟩ = some (.slice A0_4 l0_4.length c0_4) := (blk_cell BK1410.out 4).trans rfl
    have hfz13_0 := blk_frozen BK1410.out 0
    have hfz13_1 := blk_frozen BK1410.out 1
    have hfz13_2 := blk_frozen BK1410.out 2
    have hfz13_3 := blk_frozen BK1410.out 3
    have hfz13_4 := blk_frozen BK1410.out 4
    go_upto_if 21 with (first | ((with_reducible refine gate_callee (f := 30) rfl ?_); refine goesL_ (some 13) rfl rfl Try.func30 (by kernel_rfl) rfl #[.agg #[.int .i64 a0_0, .int .i64 a0_1, .string a0_2, .slice A0_3 l0_3.length c0_3, .slice A0_4 l0_4.length c0_4]] rfl (by (try simp only [List.map_toArray, List.map_cons, List.map_nil]); first | done | rfl | (simp only [List.length_drop, List.length_take]; rfl)) ?_; (with_reducible refine (laws_toNode.calls k a0_0 a0_1 a0_2 _ _ l0_3 _ _ l0_4 t1412 t1413 t1414 t1415 t1418 _ ?side1 ?side2 ?side3 ?side4 A8.out).mono ?_); (case side1 => repeat (first | exact (Kd.C_below HR0_3.out HB.out) | (with_reducible refine Kd.C_alloc ?_ _) | (with_reducible refine Kd.C_drewN ?_ _) | (with_reducible refine Kd.C_drew ?_))); (case side2 => exact HC0_3.out); (case side3 => repeat (first | exact (Kd.C_below HR0_4.out HB.out) | (with_reducible refine Kd.C_alloc ?_ _) | (with_reducible refine Kd.C_drewN ?_ _) | (with_reducible refine Kd.C_drew ?_))); (case side4 => exact HC0_4.out); rintro e w14 ⟨v1416, v1419, rfl, ho0, ho1, hb⟩; refine ⟨_, rfl, ?_⟩; have n0_ := Aside0.mk (Kd.R_lower ho0 (below_size (by repeat (first | (with_reducible first | exact HB.out | apply below_alloc | apply pw_below_drewN | apply below_drew1 | refine below_set ?_ GE1410.out) | exact HB.out)))); have n1_ := Aside0.mk (Kd.R_lower ho1 (below_size (by repeat (first | (with_reducible first | exact HB.out | apply below_alloc | apply pw_below_drewN | apply below_drew1 | refine below_set ?_ GE1410.out) | exact HB.out)))); have n2_ := Aside0.mk (blk_below (g := gb1410) (o := .cells #[.int .i64 a0_0, .int .i64 a0_1, .string a0_2, .slice A0_3 l0_3.length c0_3, .slice A0_4 l0_4.length c0_4] 36 (0, 0)) (by (with_reducible repeat (first | refine blk_drewN ?_ _ | refine blk_drew ?_ | refine blk_alloc ?_ _)); exact BK1410.out) hb); have n3_ := Aside0.mk (below_step (by repeat (first | (with_reducible first | exact HB.out | apply below_alloc | apply pw_below_drewN | apply below_drew1 | refine below_set ?_ GE1410.out) | exact HB.out)) hb); clear BK1410; clear HB; have HO1417 := n0_; have HO1420 := n1_; have BK1410 := n2_; have HB := n3_; clear n0_ n1_ n2_ n3_; (try clear hb); (try clear hb2); (try clear hk); (try clear hi); (try clear ho0); (try clear ho1); obtain ⟨Ao15, co15, eo15⟩ := Kd.R_slice HO1417.out; subst eo15; obtain ⟨Ao16, co16, eo16⟩ := Kd.R_slice HO1420.out; subst eo16) | ((with_reducible refine gate_callee (f := 70) rfl ?_); refine goesL_ (some 14) rfl rfl Try.func70 (by kernel_rfl) rfl #[.agg #[.int .i64 t1412, .int .i64 t1413, .string t1414, .slice Ao15 t1415.length co15, .slice Ao16 t1418.length co16]] rfl (by (try simp only [List.map_toArray, List.map_cons, List.map_nil]); first | done | rfl | (simp only [List.length_drop, List.length_take]; rfl)) ?_; (with_reducible refine (spec_Indented.calls k t1412 t1413 t1414 _ _ t1415 _ _ t1418 t1421 _ ?side1 ?side2 ?side3 ?side4 A9.out).mono ?_); (case side1 => repeat (first | exact (Kd.R_reads' HO1417.out).2.2 | (with_reducible refine Kd.C_alloc ?_ _) | (with_reducible refine Kd.C_drewN ?_ _) | (with_reducible refine Kd.C_drew ?_))); (case side2 => exact (Kd.R_reads' HO1417.out).2.1); (case side3 => repeat (first | exact (Kd.R_reads' HO1420.out).2.2 | (with_reducible refine Kd.C_alloc ?_ _) | (with_reducible refine Kd.C_drewN ?_ _) | (with_reducible refine Kd.C_drew ?_))); (case side4 => exact (Kd.R_reads' HO1420.out).2.1); rintro e w17 ⟨rfl, hb⟩; refine ⟨_, rfl, ?_⟩; have n0_ := Aside0.mk (Kd.R_below (by (with_reducible repeat (first | apply Kd.R_alloc | apply Kd.R_drewN | apply Kd.R_drew)); exact HO1417.out) hb); have n1_ := Aside0.mk (Kd.R_below (by (with_reducible repeat (first | apply Kd.R_alloc | apply Kd.R_drewN | apply Kd.R_drew)); exact HO1420.out) hb); have n2_ := Aside0.mk (blk_below (g := gb1410) (o := .cells #[.int .i64 a0_0, .int .i64 a0_1, .string a0_2, .slice A0_3 l0_3.length c0_3, .slice A0_4 l0_4.length c0_4] 36 (0, 0)) (by (with_reducible repeat (first | refine blk_drewN ?_ _ | refine blk_drew ?_ | refine blk_alloc ?_ _)); exact BK1410.out) hb); have n3_ := Aside0.mk (below_step (by repeat (first | (with_reducible first | exact HB.out | apply below_alloc | apply pw_below_drewN | apply below_drew1 | refine below_set ?_ GE1410.out) | exact HB.out)) hb); clear HO1417; clear HO1420; clear BK1410; clear HB; have HO1417 := n0_; have HO1420 := n1_; have BK1410 := n2_; have HB := n3_; clear n0_ n1_ n2_ n3_; (try clear hb); (try clear hb2); (try clear hk); (try clear hi); have hcz18_0 : w17.cell? ⟨gb1410, 0, none⟩ = some (.int .i64 a0_0) := (blk_cell BK1410.out 0).trans rfl; have hcz18_1 : w17.cell? ⟨gb1410, 1, none⟩ = some (.int .i64 a0_1) := (blk_cell BK1410.out 1).trans rfl; have hcz18_2 : w17.cell? ⟨gb1410, 2, none⟩ = some (.string a0_2) := (blk_cell BK1410.out 2).trans rfl; have hcz18_3 : w17.cell? ⟨gb1410, 3, none⟩ = some (.slice A0_3 l0_3.length c0_3) := (blk_cell BK1410.out 3).trans rfl; have hcz18_4 : w17.cell? ⟨gb1410, 4, none⟩ = some (.slice A0_4 l0_4.length c0_4) := (blk_cell BK1410.out 4).trans rfl; have hfz18_0 := blk_frozen BK1410.out 0; have hfz18_1 := blk_frozen BK1410.out 1; have hfz18_2 := blk_frozen BK1410.out 2; have hfz18_3 := blk_frozen BK1410.out 3; have hfz18_4 := blk_frozen BK1410.out 4) | ((with_reducible refine gate_callee (f := 30) rfl ?_); refine goesL_ (some 16) rfl rfl Try.func30 (by kernel_rfl) rfl #[.agg #[.int .i64 a0_0, .int .i64 a0_1, .string a0_2, .slice A0_3 l0_3.length c0_3, .slice A0_4 l0_4.length c0_4]] rfl (by (try simp only [List.map_toArray, List.map_cons, List.map_nil]); first | done | rfl | (simp only [List.length_drop, List.length_take]; rfl)) ?_; (with_reducible refine (laws_toNode.calls k a0_0 a0_1 a0_2 _ _ l0_3 _ _ l0_4 t1422 t1423 t1424 t1425 t1428 _ ?side1 ?side2 ?side3 ?side4 A10.out).mono ?_); (case side1 => repeat (first | exact (Kd.C_below HR0_3.out HB.out) | (with_reducible refine Kd.C_alloc ?_ _) | (with_reducible refine Kd.C_drewN ?_ _) | (with_reducible refine Kd.C_drew ?_))); (case side2 => exact HC0_3.out); (case side3 => repeat (first | exact (Kd.C_below HR0_4.out HB.out) | (with_reducible refine Kd.C_alloc ?_ _) | (with_reducible refine Kd.C_drewN ?_ _) | (with_reducible refine Kd.C_drew ?_))); (case side4 => exact HC0_4.out); rintro e w19 ⟨v1426, v1429, rfl, ho0, ho1, hb⟩; refine ⟨_, rfl, ?_⟩; have n0_ := Aside0.mk (Kd.R_elder' (by (with_reducible repeat (first | apply Kd.R_alloc | apply Kd.R_drewN | apply Kd.R_drew)); exact HO1417.out) (Kd.R_base ho0) hb); have n1_ := Aside0.mk (Kd.R_mono (Kd.R_told (Kd.R_told (Kd.R_old (by (with_reducible repeat (first | apply Kd.R_alloc | apply Kd.R_drewN | apply Kd.R_drew)); exact HO1420.out) hb) (Kd.R_base ho0)) (Kd.R_base ho1)) (fun _ h_ => h_.1)); have n2_ := Aside0.mk (Kd.R_lower (Kd.R_new' ho0 (Kd.R_lt (by (with_reducible repeat (first | apply Kd.R_alloc | apply Kd.R_drewN | apply Kd.R_drew)); exact HO1417.out))) (below_size (by repeat (first | (with_reducible first | exact HB.out | apply below_alloc | apply pw_below_drewN | apply below_drew1 | refine below_set ?_ GE1410.out) | exact HB.out)))); have n3_ := Aside0.mk (Kd.R_lower (Kd.R_new' (Kd.R_new' ho1 (Kd.R_lt (by (with_reducible repeat (first | apply Kd.R_alloc | apply Kd.R_drewN | apply Kd.R_drew)); exact HO1417.out))) (Kd.R_lt (by (with_reducible repeat (first | apply Kd.R_alloc | apply Kd.R_drewN | apply Kd.R_drew)); exact HO1420.out))) (below_size (by repeat (first | (with_reducible first | exact HB.out | apply below_alloc | apply pw_below_drewN | apply below_drew1 | refine below_set ?_ GE1410.out) | exact HB.out)))); have n4_ := Aside0.mk (blk_below (g := gb1410) (o := .cells #[.int .i64 a0_0, .int .i64 a0_1, .string a0_2, .slice A0_3 l0_3.length c0_3, .slice A0_4 l0_4.length c0_4] 36 (0, 0)) (by (with_reducible repeat (first | refine blk_drewN ?_ _ | refine blk_drew ?_ | refine blk_alloc ?_ _)); exact BK1410.out) hb); have n5_ := Aside0.mk (below_step (by repeat (first | (with_reducible first | exact HB.out | apply below_alloc | apply pw_below_drewN | apply below_drew1 | refine below_set ?_ GE1410.out) | exact HB.out)) hb); clear HO1417; clear HO1420; clear BK1410; clear HB; have HO1417 := n0_; have HO1420 := n1_; have HO1427 := n2_; have HO1430 := n3_; have BK1410 := n4_; have HB := n5_; clear n0_ n1_ n2_ n3_ n4_ n5_; (try clear hb); (try clear hb2); (try clear hk); (try clear hi); (try clear ho0); (try clear ho1)) | ((with_reducible refine gate_dst (N := 5) rfl ?_); refine box_event ?hg (N := 5) ?hd (cs := #[.int .i64 0, .int .i64 0, .string (⟨#[]⟩ : ByteArray), .slice none 0 0, .slice none 0 0]) (t := 25) ?hr ?_; (case hd => rfl); (case hg => rfl); (case hr => first | (go_simp; done) | (go_simp; rfl)); intro gb1431 hg w20 hbox hb; have n0_ := Aside0.mk (Kd.R_below (by (with_reducible repeat (first | apply Kd.R_alloc | apply Kd.R_drewN | apply Kd.R_drew)); exact HO1417.out) hb); have n1_ := Aside0.mk (Kd.R_below (Kd.R_elderB (by (with_reducible repeat (first | apply Kd.R_alloc | apply Kd.R_drewN | apply Kd.R_drew)); exact HO1420.out) gb1431 (Nat.le_of_eq hg.symm)) hb); have n2_ := Aside0.mk (Kd.R_below (by (with_reducible repeat (first | apply Kd.R_alloc | apply Kd.R_drewN | apply Kd.R_drew)); exact HO1427.out) hb); have n3_ := Aside0.mk (Kd.R_below (Kd.R_elderB (by (with_reducible repeat (first | apply Kd.R_alloc | apply Kd.R_drewN | apply Kd.R_drew)); exact HO1430.out) gb1431 (Nat.le_of_eq hg.symm)) hb); have n4_ := Aside0.mk (blk_below (g := gb1410) (o := .cells #[.int .i64 a0_0, .int .i64 a0_1, .string a0_2, .slice A0_3 l0_3.length c0_3, .slice A0_4 l0_4.length c0_4] 36 (0, 0)) (by (with_reducible repeat (first | refine blk_drewN ?_ _ | refine blk_drew ?_ | refine blk_alloc ?_ _)); exact BK1410.out) hb); have n5_ := Aside0.mk (below_step (by repeat (first | (with_reducible first | exact HB.out | apply below_alloc | apply pw_below_drewN | apply below_drew1 | refine below_set ?_ GE1410.out) | exact HB.out)) hb); have n6_ := Aside0.mk (hbox); have n7_ := Aside0.mk ((by rw [hg]; exact (below_size (by repeat (first | (with_reducible first | exact HB.out | apply below_alloc | apply pw_below_drewN | apply below_drew1 | refine below_set ?_ GE1410.out) | exact HB.out))) : w.heap.size ≤ gb1431)); have n8_ := Aside0.mk ((by rw [hg]; exact (below_size (by repeat (first | (with_reducible first | exact HB.out | apply below_alloc | apply pw_below_drewN | apply below_drew1 | refine below_set ?_ GE1410.out) | exact HB.out))) : w.heap.size ≤ gb1431)); have n9_ := Aside0.mk ((by rw [hg]; exact Nat.ne_of_lt (blk_lt (g := gb1410) (o := .cells #[.int .i64 a0_0, .int .i64 a0_1, .string a0_2, .slice A0_3 l0_3.length c0_3, .slice A0_4 l0_4.length c0_4] 36 (0, 0)) (by (with_reducible repeat (first | refine blk_drewN ?_ _ | refine blk_drew ?_ | refine blk_alloc ?_ _)); exact BK1410.out)) : gb1410 ≠ gb1431)); have n10_ := Aside0.mk ((by rw [hg]; exact Nat.ne_of_gt (blk_lt (g := gb1410) (o := .cells #[.int .i64 a0_0, .int .i64 a0_1, .string a0_2, .slice A0_3 l0_3.length c0_3, .slice A0_4 l0_4.length c0_4] 36 (0, 0)) (by (with_reducible repeat (first | refine blk_drewN ?_ _ | refine blk_drew ?_ | refine blk_alloc ?_ _)); exact BK1410.out)) : gb1431 ≠ gb1410)); clear HO1417; clear HO1420; clear HO1427; clear HO1430; clear BK1410; clear HB; have HO1417 := n0_; have HO1420 := n1_; have HO1427 := n2_; have HO1430 := n3_; have BK1410 := n4_; have HB := n5_; have BK1431 := n6_; have GW1431 := n7_; have GE1431 := n8_; have NB1410_1431 := n9_; have NB1431_1410 := n10_; clear n0_ n1_ n2_ n3_ n4_ n5_ n6_ n7_ n8_ n9_ n10_; clear hb hbox hg; have hnb21 := NB1431_1410.out; have hnc21 := NB1410_1431.out; have hcz22_0 : w20.cell? ⟨gb1431, 0, none⟩ = some (.int .i64 0) := (blk_cell BK1431.out 0).trans rfl; have hcz22_1 : w20.cell? ⟨gb1431, 1, none⟩ = some (.int .i64 0) := (blk_cell BK1431.out 1).trans rfl; have hcz22_2 : w20.cell? ⟨gb1431, 2, none⟩ = some (.string (⟨#[]⟩ : ByteArray)) := (blk_cell BK1431.out 2).trans rfl; have hcz22_3 : w20.cell? ⟨gb1431, 3, none⟩ = some (.slice none 0 0) := (blk_cell BK1431.out 3).trans rfl; have hcz22_4 : w20.cell? ⟨gb1431, 4, none⟩ = some (.slice none 0 0) := (blk_cell BK1431.out 4).trans rfl; have hfz22_0 := blk_frozen BK1431.out 0; have hfz22_1 := blk_frozen BK1431.out 1; have hfz22_2 := blk_frozen BK1431.out 2; have hfz22_3 := blk_frozen BK1431.out 3; have hfz22_4 := blk_frozen BK1431.out 4; obtain ⟨Ao23, co23, eo23⟩ := Kd.R_slice HO1427.out; subst eo23; obtain ⟨Ao24, co24, eo24⟩ := Kd.R_slice HO1430.out; subst eo24) | ((with_reducible refine gate_callee (f := 71) rfl ?_); refine goesL_ (some 18) rfl rfl Try.func71 (by kernel_rfl) rfl #[.agg #[.int .i64 t1422, .int .i64 t1423, .string t1424, .slice Ao23 t1425.length co23, .slice Ao24 t1428.length co24]] rfl (by (try simp only [List.map_toArray, List.map_cons, List.map_nil]); first | done | rfl | (simp only [List.length_drop, List.length_take]; rfl)) ?_; (with_reducible refine (impl_Indented.calls k t1422 t1423 t1424 _ _ t1425 _ _ t1428 t1432 _ ?side1 ?side2 ?side3 ?side4 A11.out).mono ?_); (case side1 => refine (Kd.R_reads' (e := 9) (base := w.heap.size) (ok := fun k_ => (True ∧ some k_ ≠ (.slice Ao15 t1415.length co15 : Value).ownBlock)) (n := t1425.length) (c := co23) ?_).2.2; exact (by (with_reducible repeat (first | apply Kd.R_alloc | apply Kd.R_drewN | apply Kd.R_drew)); exact (Kd.R_mono (Kd.R_far (p := ⟨gb1431, 4, none⟩) (Kd.R_far (p := ⟨gb1431, 3, none⟩) (Kd.R_far (p := ⟨gb1431, 2, none⟩) (Kd.R_far (p := ⟨gb1431, 1, none⟩) (Kd.R_far (p := ⟨gb1431, 0, none⟩) (Kd.R_types HO1427.out BK1431.out (by decide)) (fun _ hk => hk.2) (.int .i64 t1422)) (fun _ hk => hk.2) (.int .i64 t1423)) (fun _ hk => hk.2) (.string t1424)) (fun _ hk => hk.2) (.slice Ao23 t1425.length co23)) (fun _ hk => hk.2) (.slice Ao24 t1428.length co24)) (fun _ h_ => h_.1)))); (case side2 => exact (Kd.R_reads' HO1427.out).2.1); (case side3 => refine (Kd.R_reads' (e := 25) (base := w.heap.size) (ok := fun k_ => (((some k_ ≠ (.slice Ao23 t1425.length co23 : Value).ownBlock ∧ some k_ ≠ (.slice Ao15 t1415.length co15 : Value).ownBlock) ∧ some k_ ≠ (.slice Ao16 t1418.length co16 : Value).ownBlock) ∧ k_ ≠ gb1431)) (n := t1428.length) (c := co24) ?_).2.2; exact (by (with_reducible repeat (first | apply Kd.R_alloc | apply Kd.R_drewN | apply Kd.R_drew)); exact (Kd.R_mono (Kd.R_far (p := ⟨gb1431, 4, none⟩) (Kd.R_far (p := ⟨gb1431, 3, none⟩) (Kd.R_far (p := ⟨gb1431, 2, none⟩) (Kd.R_far (p := ⟨gb1431, 1, none⟩) (Kd.R_far (p := ⟨gb1431, 0, none⟩) (Kd.R_mono HO1430.out (fun k_ hk => (⟨hk, hk.2⟩ : _ ∧ k_ ≠ gb1431))) (fun _ hk => hk.2) (.int .i64 t1422)) (fun _ hk => hk.2) (.int .i64 t1423)) (fun _ hk => hk.2) (.string t1424)) (fun _ hk => hk.2) (.slice Ao23 t1425.length co23)) (fun _ hk => hk.2) (.slice Ao24 t1428.length co24)) (fun _ h_ => h_.1)))); (case side4 => exact (Kd.R_reads' HO1430.out).2.1); rintro e w25 ⟨rfl, hb⟩; refine ⟨_, rfl, ?_⟩; have n0_ := Aside0.mk (Kd.R_below (by (with_reducible repeat (first | apply Kd.R_alloc | apply Kd.R_drewN | apply Kd.R_drew)); exact (Kd.R_mono (Kd.R_far (p := ⟨gb1431, 4, none⟩) (Kd.R_far (p := ⟨gb1431, 3, none⟩) (Kd.R_far (p := ⟨gb1431, 2, none⟩) (Kd.R_far (p := ⟨gb1431, 1, none⟩) (Kd.R_far (p := ⟨gb1431, 0, none⟩) (Kd.R_types HO1417.out BK1431.out (by decide)) (fun _ hk => hk.2) (.int .i64 t1422)) (fun _ hk => hk.2) (.int .i64 t1423)) (fun _ hk => hk.2) (.string t1424)) (fun _ hk => hk.2) (.slice Ao23 t1425.length co23)) (fun _ hk => hk.2) (.slice Ao24 t1428.length co24)) (fun _ h_ => h_.1))) hb); have n1_ := Aside0.mk (Kd.R_below (by (with_reducible repeat (first | apply Kd.R_alloc | apply Kd.R_drewN | apply Kd.R_drew)); exact (Kd.R_mono (Kd.R_far (p := ⟨gb1431, 4, none⟩) (Kd.R_far (p := ⟨gb1431, 3, none⟩) (Kd.R_far (p := ⟨gb1431, 2, none⟩) (Kd.R_far (p := ⟨gb1431, 1, none⟩) (Kd.R_far (p := ⟨gb1431, 0, none⟩) (Kd.R_mono HO1420.out (fun k_ hk => (⟨hk, hk.2⟩ : _ ∧ k_ ≠ gb1431))) (fun _ hk => hk.2) (.int .i64 t1422)) (fun _ hk => hk.2) (.int .i64 t1423)) (fun _ hk => hk.2) (.string t1424)) (fun _ hk => hk.2) (.slice Ao23 t1425.length co23)) (fun _ hk => hk.2) (.slice Ao24 t1428.length co24)) (fun _ h_ => h_.1))) hb); have n2_ := Aside0.mk (Kd.R_below (by (with_reducible repeat (first | apply Kd.R_alloc | apply Kd.R_drewN | apply Kd.R_drew)); exact (Kd.R_mono (Kd.R_far (p := ⟨gb1431, 4, none⟩) (Kd.R_far (p := ⟨gb1431, 3, none⟩) (Kd.R_far (p := ⟨gb1431, 2, none⟩) (Kd.R_far (p := ⟨gb1431, 1, none⟩) (Kd.R_far (p := ⟨gb1431, 0, none⟩) (Kd.R_types HO1427.out BK1431.out (by decide)) (fun _ hk => hk.2) (.int .i64 t1422)) (fun _ hk => hk.2) (.int .i64 t1423)) (fun _ hk => hk.2) (.string t1424)) (fun _ hk => hk.2) (.slice Ao23 t1425.length co23)) (fun _ hk => hk.2) (.slice Ao24 t1428.length co24)) (fun _ h_ => h_.1))) hb); have n3_ := Aside0.mk (Kd.R_below (by (with_reducible repeat (first | apply Kd.R_alloc | apply Kd.R_drewN | apply Kd.R_drew)); exact (Kd.R_mono (Kd.R_far (p := ⟨gb1431, 4, none⟩) (Kd.R_far (p := ⟨gb1431, 3, none⟩) (Kd.R_far (p := ⟨gb1431, 2, none⟩) (Kd.R_far (p := ⟨gb1431, 1, none⟩) (Kd.R_far (p := ⟨gb1431, 0, none⟩) (Kd.R_mono HO1430.out (fun k_ hk => (⟨hk, hk.2⟩ : _ ∧ k_ ≠ gb1431))) (fun _ hk => hk.2) (.int .i64 t1422)) (fun _ hk => hk.2) (.int .i64 t1423)) (fun _ hk => hk.2) (.string t1424)) (fun _ hk => hk.2) (.slice Ao23 t1425.length co23)) (fun _ hk => hk.2) (.slice Ao24 t1428.length co24)) (fun _ h_ => h_.1))) hb); have n4_ := Aside0.mk (blk_below (g := gb1410) (o := .cells #[.int .i64 a0_0, .int .i64 a0_1, .string a0_2, .slice A0_3 l0_3.length c0_3, .slice A0_4 l0_4.length c0_4] 36 (0, 0)) (by (with_reducible repeat (first | refine blk_drewN ?_ _ | refine blk_drew ?_ | refine blk_alloc ?_ _)); refine blk_far ?_ NB1410_1431.out _; (with_reducible repeat (first | refine blk_drewN ?_ _ | refine blk_drew ?_ | refine blk_alloc ?_ _)); refine blk_far ?_ NB1410_1431.out _; (with_reducible repeat (first | refine blk_drewN ?_ _ | refine blk_drew ?_ | refine blk_alloc ?_ _)); refine blk_far ?_ NB1410_1431.out _; (with_reducible repeat (first | refine blk_drewN ?_ _ | refine blk_drew ?_ | refine blk_alloc ?_ _)); refine blk_far ?_ NB1410_1431.out _; (with_reducible repeat (first | refine blk_drewN ?_ _ | refine blk_drew ?_ | refine blk_alloc ?_ _)); refine blk_far ?_ NB1410_1431.out _; (with_reducible repeat (first | refine blk_drewN ?_ _ | refine blk_drew ?_ | refine blk_alloc ?_ _)); exact BK1410.out) hb); have n5_ := Aside0.mk (blk_below (g := gb1431) (o := .cells #[.int .i64 t1422, .int .i64 t1423, .string t1424, .slice Ao23 t1425.length co23, .slice Ao24 t1428.length co24] 25 (0, 0)) (by (with_reducible repeat (first | refine blk_drewN ?_ _ | refine blk_drew ?_ | refine blk_alloc ?_ _)); refine blk_put (cs := #[.int .i64 t1422, .int .i64 t1423, .string t1424, .slice Ao23 t1425.length co23, .slice none 0 0]) ?_ 4 _ rfl; (with_reducible repeat (first | refine blk_drewN ?_ _ | refine blk_drew ?_ | refine blk_alloc ?_ _)); refine blk_put (cs := #[.int .i64 t1422, .int .i64 t1423, .string t1424, .slice none 0 0, .slice none 0 0]) ?_ 3 _ rfl; (with_reducible repeat (first | refine blk_drewN ?_ _ | refine blk_drew ?_ | refine blk_alloc ?_ _)); refine blk_put (cs := #[.int .i64 t1422, .int .i64 t1423, .string (⟨#[]⟩ : ByteArray), .slice none 0 0, .slice none 0 0]) ?_ 2 _ rfl; (with_reducible repeat (first | refine blk_drewN ?_ _ | refine blk_drew ?_ | refine blk_alloc ?_ _)); refine blk_put (cs := #[.int .i64 t1422, .int .i64 0, .string (⟨#[]⟩ : ByteArray), .slice none 0 0, .slice none 0 0]) ?_ 1 _ rfl; (with_reducible repeat (first | refine blk_drewN ?_ _ | refine blk_drew ?_ | refine blk_alloc ?_ _)); refine blk_put (cs := #[.int .i64 0, .int .i64 0, .string (⟨#[]⟩ : ByteArray), .slice none 0 0, .slice none 0 0]) ?_ 0 _ rfl; (with_reducible repeat (first | refine blk_drewN ?_ _ | refine blk_drew ?_ | refine blk_alloc ?_ _)); exact BK1431.out) hb); have n6_ := Aside0.mk (below_step (by repeat (first | (with_reducible first | exact HB.out | apply below_alloc | apply pw_below_drewN | apply below_drew1 | refine below_set ?_ GE1410.out | refine below_set ?_ GE1431.out) | exact HB.out)) hb); clear HO1417; clear HO1420; clear HO1427; clear HO1430; clear BK1410; clear BK1431; clear HB; have HO1417 := n0_; have HO1420 := n1_; have HO1427 := n2_; have HO1430 := n3_; have BK1410 := n4_; have BK1431 := n5_; have HB := n6_; clear n0_ n1_ n2_ n3_ n4_ n5_ n6_; (try clear hb); (try clear hb2); (try clear hk); (try clear hi)))
    (try simp only [Act.put, List.setIfInBounds_toArray, List.set_cons_zero, List.set_cons_succ])
    have H := HC12.out
    clear HC12
    by_cases c26 : t1432.toList = t1421.toList
    · rw [if_pos c26] at H
      have c26b0 : (t1432.toList == t1421.toList) = true := beq_iff_eq.mpr c26
      have c26b1 : (t1432.toList != t1421.toList) = false := bne_eq_false_iff_eq.mpr c26
      clear c26
      (first | rw [c26b0] | rw [c26b1] | (simp only [i64_w, i32_w]; rw [c26b0]) | skip)
      replace H := Option.bind_eq_some_iff.mp H
      obtain ⟨⟨t1433, t1434, t1435, t1436, t1439⟩, A270, H⟩ := H
      replace H : ((laws_eqNode.f k t1422 t1423 t1424 t1425 t1428 t1433 t1434 t1435 t1436 t1439).bind fun t1442 => (if t1442 = true then (some true) else (some false))) = some r := H
      have A27 := Aside0.mk A270
      clear A270
      replace H := Option.bind_eq_some_iff.mp H
      obtain ⟨t1442, A280, H⟩ := H
      replace H : (if t1442 = true then (some true) else (some false)) = some r := H
      have A28 := Aside0.mk A280
      clear A280
      have HC29 := Aside0.mk H
      clear H
      try go_wp2
      have n0_ := Aside0.mk (Kd.R_drew HO1417.out)
      have n1_ := Aside0.mk (Kd.R_drew HO1420.out)
      have n2_ := Aside0.mk (Kd.R_drew HO1427.out)
      have n3_ := Aside0.mk (Kd.R_drew HO1430.out)
      have n4_ := Aside0.mk (blk_drew BK1410.out)
      have n5_ := Aside0.mk (blk_drew BK1431.out)
      have n6_ := Aside0.mk (below_drew1 HB.out)
      clear HO1417
      clear HO1420
      clear HO1427
      clear HO1430
      clear BK1410
      clear BK1431
      clear HB
      have HO1417 := n0_
      have HO1420 := n1_
      have HO1427 := n2_
      have HO1430 := n3_
      have BK1410 := n4_
      have BK1431 := n5_
      have HB := n6_
      clear n0_ n1_ n2_ n3_ n4_ n5_ n6_
      refine start_ (n := 5) (S := fun w' => w'.cell? ⟨gb1431, 0, none⟩ = some (.int .i64 t1422) ∧ w'.cell? ⟨gb1431, 1, none⟩ = some (.int .i64 t1423) ∧ w'.cell? ⟨gb1431, 2, none⟩ = some (.string t1424) ∧ w'.cell? ⟨gb1431, 3, none⟩ = some (.slice Ao23 t1425.length co23) ∧ w'.cell? ⟨gb1431, 4, none⟩ = some (.slice Ao24 t1428.length co24) ∧ w'.cell? ⟨gb1410, 0, none⟩ = some (.int .i64 a0_0) ∧ w'.cell? ⟨gb1410, 1, none⟩ = some (.int .i64 a0_1) ∧ w'.cell? ⟨gb1410, 2, none⟩ = some (.string a0_2) ∧ w'.cell? ⟨gb1410, 3, none⟩ = some (.slice A0_3 l0_3.length c0_3) ∧ w'.cell? ⟨gb1410, 4, none⟩ = some (.slice A0_4 l0_4.length c0_4)) (ds := []) #[false, false, false, false, false] (by kernel_rfl) rfl rfl ⟨(blk_cell BK1431.out 0).trans rfl, (blk_cell BK1431.out 1).trans rfl, (blk_cell BK1431.out 2).trans rfl, (blk_cell BK1431.out 3).trans rfl, (blk_cell BK1431.out 4).trans rfl, (blk_cell BK1410.out 0).trans rfl, (blk_cell BK1410.out 1).trans rfl, (blk_cell BK1410.out 2).trans rfl, (blk_cell BK1410.out 3).trans rfl, (blk_cell BK1410.out 4).trans rfl⟩ (fun hHeld => ?_)
      generalize w25.drew = w30 at HO1417 HO1420 HO1427 HO1430 BK1410 BK1431 HB hHeld ⊢
      refine take_ (i := 0) (N := some 22) (v := ?_) (a' := ?_) (bs_ 5 1) rfl rfl (by kernel_rfl) (fun _ _ _ h => h) (Or.inl ⟨by rfl, ?_⟩) hHeld ?_ ?_
      rotate_left
      · rintro w' ⟨s0, s1, s2, s3, s4, s5, s6, s7, s8, s9⟩
        go_simp
        (first | with_reducible rfl | rfl)
      rotate_left
      · simp only [Act.put, List.setIfInBounds_toArray, List.set_cons_zero, List.set_cons_succ, i64_w, i32_w]
        rfl
      refine take_ (i := 1) (N := some 23) (v := ?_) (a' := ?_) (bs_ 5 3) rfl rfl (by kernel_rfl) (fun _ _ _ h => h) (Or.inl ⟨by rfl, ?_⟩) hHeld ?_ ?_
      rotate_left
      · rintro w' ⟨s0, s1, s2, s3, s4, s5, s6, s7, s8, s9⟩
        go_simp
        (first | with_reducible rfl | rfl)
      rotate_left
      · simp only [Act.put, List.setIfInBounds_toArray, List.set_cons_zero, List.set_cons_succ, i64_w, i32_w]
        rfl
      refine one_ (i := 2) (N := some 24) (bs_ 5 7) rfl rfl (by kernel_rfl) (by decide) (fun K hK => ?_)
      refine goes_ Try.func30 (by kernel_rfl) rfl #[.agg #[.int .i64 a0_0, .int .i64 a0_1, .string a0_2, .slice A0_3 l0_3.length c0_3, .slice A0_4 l0_4.length c0_4]] (by rfl) rfl rfl (by (try simp only [List.map_toArray, List.map_cons, List.map_nil]); first | done | rfl | (simp only [List.length_drop, List.length_take]; rfl)) ?_
      with_reducible refine (laws_toNode.calls k a0_0 a0_1 a0_2 _ _ l0_3 _ _ l0_4 t1433 t1434 t1435 t1436 t1439 _ ?side1 ?side2 ?side3 ?side4 A27.out).mono ?_
      (case side1 => repeat (first | exact (Kd.C_below HR0_3.out HB.out) | (with_reducible refine Kd.C_alloc ?_ _) | (with_reducible refine Kd.C_drewN ?_ _) | (with_reducible refine Kd.C_drew ?_)))
      (case side2 => exact HC0_3.out)
      (case side3 => repeat (first | exact (Kd.C_below HR0_4.out HB.out) | (with_reducible refine Kd.C_alloc ?_ _) | (with_reducible refine Kd.C_drewN ?_ _) | (with_reducible refine Kd.C_drew ?_)))
      (case side4 => exact HC0_4.out)
      rintro e w31 ⟨v1437, v1440, rfl, ho0, ho1, hb⟩
      refine ⟨_, rfl, ?_⟩
      have n0_ := Aside0.mk (Kd.R_elder' (by (with_reducible repeat (first | apply Kd.R_alloc | apply Kd.R_drewN | apply Kd.R_drew)); exact HO1417.out) (Kd.R_base ho0) hb)
      have n1_ := Aside0.mk (Kd.R_mono (Kd.R_told (Kd.R_told (Kd.R_old (by (with_reducible repeat (first | apply Kd.R_alloc | apply Kd.R_drewN | apply Kd.R_drew)); exact HO1420.out) hb) (Kd.R_base ho0)) (Kd.R_base ho1)) (fun _ h_ => h_.1))
      have n2_ := Aside0.mk (Kd.R_elder' (by (with_reducible repeat (first | apply Kd.R_alloc | apply Kd.R_drewN | apply Kd.R_drew)); exact HO1427.out) (Kd.R_base ho0) hb)
      have n3_ := Aside0.mk (Kd.R_mono (Kd.R_told (Kd.R_told (Kd.R_old (by (with_reducible repeat (first | apply Kd.R_alloc | apply Kd.R_drewN | apply Kd.R_drew)); exact HO1430.out) hb) (Kd.R_base ho0)) (Kd.R_base ho1)) (fun _ h_ => h_.1))
      have n4_ := Aside0.mk (Kd.R_lower (Kd.R_new' (Kd.R_new' ho0 (Kd.R_lt (by (with_reducible repeat (first | apply Kd.R_alloc | apply Kd.R_drewN | apply Kd.R_drew)); exact HO1417.out))) (Kd.R_lt (by (with_reducible repeat (first | apply Kd.R_alloc | apply Kd.R_drewN | apply Kd.R_drew)); exact HO1427.out))) (below_size (by repeat (first | (with_reducible first | exact HB.out | apply below_alloc | apply pw_below_drewN | apply below_drew1 | refine below_set ?_ GE1410.out | refine below_set ?_ GE1431.out) | exact HB.out))))
      have n5_ := Aside0.mk (Kd.R_lower (Kd.R_newB (Kd.R_new' (Kd.R_new' (Kd.R_new' (Kd.R_new' ho1 (Kd.R_lt (by (with_reducible repeat (first | apply Kd.R_alloc | apply Kd.R_drewN | apply Kd.R_drew)); exact HO1417.out))) (Kd.R_lt (by (with_reducible repeat (first | apply Kd.R_alloc | apply Kd.R_drewN | apply Kd.R_drew)); exact HO1420.out))) (Kd.R_lt (by (with_reducible repeat (first | apply Kd.R_alloc | apply Kd.R_drewN | apply Kd.R_drew)); exact HO1427.out))) (Kd.R_lt (by (with_reducible repeat (first | apply Kd.R_alloc | apply Kd.R_drewN | apply Kd.R_drew)); exact HO1430.out))) (g := gb1431) (o := .cells #[.int .i64 t1422, .int .i64 t1423, .string t1424, .slice Ao23 t1425.length co23, .slice Ao24 t1428.length co24] 25 (0, 0)) (by (with_reducible repeat (first | refine blk_drewN ?_ _ | refine blk_drew ?_ | refine blk_alloc ?_ _)); exact BK1431.out)) (below_size (by repeat (first | (with_reducible first | exact HB.out | apply below_alloc | apply pw_below_drewN | apply below_drew1 | refine below_set ?_ GE1410.out | refine below_set ?_ GE1431.out) | exact HB.out))))
      have n6_ := Aside0.mk (blk_below (g := gb1410) (o := .cells #[.int .i64 a0_0, .int .i64 a0_1, .string a0_2, .slice A0_3 l0_3.length c0_3, .slice A0_4 l0_4.length c0_4] 36 (0, 0)) (by (with_reducible repeat (first | refine blk_drewN ?_ _ | refine blk_drew ?_ | refine blk_alloc ?_ _)); exact BK1410.out) hb)
      have n7_ := Aside0.mk (blk_below (g := gb1431) (o := .cells #[.int .i64 t1422, .int .i64 t1423, .string t1424, .slice Ao23 t1425.length co23, .slice Ao24 t1428.length co24] 25 (0, 0)) (by (with_reducible repeat (first | refine blk_drewN ?_ _ | refine blk_drew ?_ | refine blk_alloc ?_ _)); exact BK1431.out) hb)
      have n8_ := Aside0.mk (below_step (by repeat (first | (with_reducible first | exact HB.out | apply below_alloc | apply pw_below_drewN | apply below_drew1 | refine below_set ?_ GE1410.out | refine below_set ?_ GE1431.out) | exact HB.out)) hb)
      clear HO1417
      clear HO1420
      clear HO1427
      clear HO1430
      clear BK1410
      clear BK1431
      clear HB
      have HO1417 := n0_
      have HO1420 := n1_
      have HO1427 := n2_
      have HO1430 := n3_
      have HO1438 := n4_
      have HO1441 := n5_
      have BK1410 := n6_
      have BK1431 := n7_
      have HB := n8_
      clear n0_ n1_ n2_ n3_ n4_ n5_ n6_ n7_ n8_
      (try clear hb)
      (try clear hb2)
      (try clear hk)
      (try clear hi)
      (try clear ho0)
      (try clear ho1)
      obtain ⟨Ao32, co32, eo32⟩ := Kd.R_slice HO1438.out
      (first | subst eo32 | (injection eo32 with f1_ f2_ f3_; have f4_ := f1_.symm; have f5_ := f3_.symm; clear f1_ f2_ f3_; subst f4_; subst f5_))
      obtain ⟨Ao33, co33, eo33⟩ := Kd.R_slice HO1441.out
      (first | subst eo33 | (injection eo33 with f1_ f2_ f3_; have f4_ := f1_.symm; have f5_ := f3_.symm; clear f1_ f2_ f3_; subst f4_; subst f5_))
      refine hK.out _ _ ⟨(blk_cell BK1431.out 0).trans rfl, (blk_cell BK1431.out 1).trans rfl, (blk_cell BK1431.out 2).trans rfl, (blk_cell BK1431.out 3).trans rfl, (blk_cell BK1431.out 4).trans rfl, (blk_cell BK1410.out 0).trans rfl, (blk_cell BK1410.out 1).trans rfl, (blk_cell BK1410.out 2).trans rfl, (blk_cell BK1410.out 3).trans rfl, (blk_cell BK1410.out 4).trans rfl⟩ (fun hHeld => ?_)
      clear hK K
      refine norm_ (a' := ?_) ?_ ?_
      rotate_left
      · show Act.put _ (some 24) _ = _
        simp only [Act.put, List.setIfInBounds_toArray, List.set_cons_zero, List.set_cons_succ, i64_w, i32_w]
        rfl
      refine one_ (i := 3) (N := some 25) (bs_ 5 15) rfl rfl (by kernel_rfl) (by decide) (fun K hK => ?_)
      refine goes_ Try.func21 (by kernel_rfl) rfl #[.agg #[.int .i64 t1422, .int .i64 t1423, .string t1424, .slice Ao23 t1425.length co23, .slice Ao24 t1428.length co24], .agg #[.int .i64 t1433, .int .i64 t1434, .string t1435, .slice Ao32 t1436.length co32, .slice Ao33 t1439.length co33]] (by rfl) rfl rfl (by (try simp only [List.map_toArray, List.map_cons, List.map_nil]); first | done | rfl | (simp only [List.length_drop, List.length_take]; rfl)) ?_
      with_reducible refine (laws_eqNode.calls k t1422 t1423 t1424 _ _ t1425 _ _ t1428 t1433 t1434 t1435 _ _ t1436 _ _ t1439 t1442 _ ?side1 ?side2 ?side3 ?side4 ?side5 ?side6 ?side7 ?side8 A28.out).mono ?_
      (case side1 => repeat (first | exact (Kd.R_reads' HO1427.out).2.2 | (with_reducible refine Kd.C_alloc ?_ _) | (with_reducible refine Kd.C_drewN ?_ _) | (with_reducible refine Kd.C_drew ?_)))
      (case side2 => exact (Kd.R_reads' HO1427.out).2.1)
      (case side3 => repeat (first | exact (Kd.R_reads' HO1430.out).2.2 | (with_reducible refine Kd.C_alloc ?_ _) | (with_reducible refine Kd.C_drewN ?_ _) | (with_reducible refine Kd.C_drew ?_)))
      (case side4 => exact (Kd.R_reads' HO1430.out).2.1)
      (case side5 => repeat (first | exact (Kd.R_reads' HO1438.out).2.2 | (with_reducible refine Kd.C_alloc ?_ _) | (with_reducible refine Kd.C_drewN ?_ _) | (with_reducible refine Kd.C_drew ?_)))
      (case side6 => exact (Kd.R_reads' HO1438.out).2.1)
      (case side7 => repeat (first | exact (Kd.R_reads' HO1441.out).2.2 | (with_reducible refine Kd.C_alloc ?_ _) | (with_reducible refine Kd.C_drewN ?_ _) | (with_reducible refine Kd.C_drew ?_)))
      (case side8 => exact (Kd.R_reads' HO1441.out).2.1)
      rintro e w34 ⟨rfl, hb⟩
      refine ⟨_, rfl, ?_⟩
      have n0_ := Aside0.mk (Kd.R_below (by (with_reducible repeat (first | apply Kd.R_alloc | apply Kd.R_drewN | apply Kd.R_drew)); exact HO1417.out) hb)
      have n1_ := Aside0.mk (Kd.R_below (by (with_reducible repeat (first | apply Kd.R_alloc | apply Kd.R_drewN | apply Kd.R_drew)); exact HO1420.out) hb)
      have n2_ := Aside0.mk (Kd.R_below (by (with_reducible repeat (first | apply Kd.R_alloc | apply Kd.R_drewN | apply Kd.R_drew)); exact HO1427.out) hb)
      have n3_ := Aside0.mk (Kd.R_below (by (with_reducible repeat (first | apply Kd.R_alloc | apply Kd.R_drewN | apply Kd.R_drew)); exact HO1430.out) hb)
      have n4_ := Aside0.mk (Kd.R_below (by (with_reducible repeat (first | apply Kd.R_alloc | apply Kd.R_drewN | apply Kd.R_drew)); exact HO1438.out) hb)
      have n5_ := Aside0.mk (Kd.R_below (by (with_reducible repeat (first | apply Kd.R_alloc | apply Kd.R_drewN | apply Kd.R_drew)); exact HO1441.out) hb)
      have n6_ := Aside0.mk (blk_below (g := gb1410) (o := .cells #[.int .i64 a0_0, .int .i64 a0_1, .string a0_2, .slice A0_3 l0_3.length c0_3, .slice A0_4 l0_4.length c0_4] 36 (0, 0)) (by (with_reducible repeat (first | refine blk_drewN ?_ _ | refine blk_drew ?_ | refine blk_alloc ?_ _)); exact BK1410.out) hb)
      have n7_ := Aside0.mk (blk_below (g := gb1431) (o := .cells #[.int .i64 t1422, .int .i64 t1423, .string t1424, .slice Ao23 t1425.length co23, .slice Ao24 t1428.length co24] 25 (0, 0)) (by (with_reducible repeat (first | refine blk_drewN ?_ _ | refine blk_drew ?_ | refine blk_alloc ?_ _)); exact BK1431.out) hb)
      have n8_ := Aside0.mk (below_step (by repeat (first | (with_reducible first | exact HB.out | apply below_alloc | apply pw_below_drewN | apply below_drew1 | refine below_set ?_ GE1410.out | refine below_set ?_ GE1431.out) | exact HB.out)) hb)
      clear HO1417
      clear HO1420
      clear HO1427
      clear HO1430
      clear HO1438
      clear HO1441
      clear BK1410
      clear BK1431
      clear HB
      have HO1417 := n0_
      have HO1420 := n1_
      have HO1427 := n2_
      have HO1430 := n3_
      have HO1438 := n4_
      have HO1441 := n5_
      have BK1410 := n6_
      have BK1431 := n7_
      have HB := n8_
      clear n0_ n1_ n2_ n3_ n4_ n5_ n6_ n7_ n8_
      (try clear hb)
      (try clear hb2)
      (try clear hk)
      (try clear hi)
      refine hK.out _ _ ⟨(blk_cell BK1431.out 0).trans rfl, (blk_cell BK1431.out 1).trans rfl, (blk_cell BK1431.out 2).trans rfl, (blk_cell BK1431.out 3).trans rfl, (blk_cell BK1431.out 4).trans rfl, (blk_cell BK1410.out 0).trans rfl, (blk_cell BK1410.out 1).trans rfl, (blk_cell BK1410.out 2).trans rfl, (blk_cell BK1410.out 3).trans rfl, (blk_cell BK1410.out 4).trans rfl⟩ (fun hHeld => ?_)
      clear hK K
      refine norm_ (a' := ?_) ?_ ?_
      rotate_left
      · show Act.put _ (some 25) _ = _
        simp only [Act.put, List.setIfInBounds_toArray, List.set_cons_zero, List.set_cons_succ, i64_w, i32_w]
        rfl
      refine pure_ (i := 4) (N := some 26) (v := _) (a' := _) (bs_ 5 31) rfl rfl (by kernel_rfl) (fun _ _ _ h => h) (Or.inl ⟨by rfl, by intro w'; go_simp; first | with_reducible rfl | rfl⟩) (by simp only [Act.put, List.setIfInBounds_toArray, List.set_cons_zero, List.set_cons_succ, i64_w, i32_w]; rfl) ?_
      refine done_ (by kernel_rfl) ?_
      go_upto_if 26 with (fail)
      try clear hHeld
      have H := HC29.out
      clear HC29
      by_cases c35 : t1442 = true
      · subst c35
        have H1 : (some true) = some r := by rw [if_pos rfl] at H; exact H
        clear H
        have H := H1
        clear H1
        obtain rfl := Option.some.inj H
        go_wp2
        go_ret
        exact ⟨by first | rfl | (simp [errW_none, errW_some] <;> rfl) | (simp [*, errW_none, errW_some] <;> rfl), by repeat (first | (with_reducible first | exact HB.out | apply below_alloc | apply pw_below_drewN | apply below_drew1 | refine below_set ?_ GE1410.out | refine below_set ?_ GE1431.out) | exact HB.out)⟩
      · replace c35 := Bool.eq_false_iff.mpr c35
        subst c35
        have H1 : (some false) = some r := by rw [if_neg (show ¬ (false = true) by decide)] at H; exact H
        clear H
        have H := H1
        clear H1
        obtain rfl := Option.some.inj H
        go_wp2
        go_ret
        exact ⟨by first | rfl | (simp [errW_none, errW_some] <;> rfl) | (simp [*, errW_none, errW_some] <;> rfl), by repeat (first | (with_reducible first | exact HB.out | apply below_alloc | apply pw_below_drewN | apply below_drew1 | refine below_set ?_ GE1410.out | refine below_set ?_ GE1431.out) | exact HB.out)⟩
    · rw [if_neg c26] at H
      have c26b0 : (t1432.toList == t1421.toList) = false := beq_eq_false_iff_ne.mpr c26
      have c26b1 : (t1432.toList != t1421.toList) = true := bne_iff_ne.mpr c26
      (first | rw [c26b0] | rw [c26b1] | (simp only [i64_w, i32_w]; rw [c26b0]) | skip)
      obtain rfl := Option.some.inj H
      go_wp2
      go_ret
      exact ⟨by first | rfl | (simp [errW_none, errW_some] <;> rfl) | (simp [*, errW_none, errW_some] <;> rfl), by repeat (first | (with_reducible first | exact HB.out | apply below_alloc | apply pw_below_drewN | apply below_drew1 | refine below_set ?_ GE1410.out | refine below_set ?_ GE1431.out) | exact HB.out)⟩

end Go.Proofs.Ytnbnpgjgibcmpaa.P
