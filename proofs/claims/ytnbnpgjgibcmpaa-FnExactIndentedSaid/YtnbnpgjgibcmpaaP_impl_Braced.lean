-- Made by drive.py (a program of this session) over the kit's print; not written line by line by a hand.
import Derived.Test.YtnbnpgjgibcmpaaP0
import Derived.Test.YtnbnpgjgibcmpaaP_impl_braced
import Derived.Test.YtnbnpgjgibcmpaaP_impl_shapeOk
namespace Go.Proofs.Ytnbnpgjgibcmpaa.P
open Go.RowKit Go.Proofs.YtnbnpgjgibcmpaaW.PrintWords Go.Proofs.YtnbnpgjgibcmpaaW.PrintLast Go.Proofs.YtnbnpgjgibcmpaaW.PrintMore
attribute [local go_sem] max2_int min2_int max_two min_two max_three min_three max_four min_four   -- for this text's walks alone
set_option linter.unusedVariables false
set_option linter.unusedSimpArgs false

/-! ### impl_Braced: function 59 -/
def impl_Braced.f (k : Nat) (a0_0 : Int) (a0_1 : Int) (a0_2 : ByteArray) (l0_3 : List ByteArray) (l0_4 : List (S25)) : Option (ByteArray) := (impl_TreeOk.f k a0_0 a0_1 a0_2 l0_3 l0_4).bind fun t1247 => (if t1247 = true then ((impl_braced.f k a0_0 a0_1 a0_2 l0_3 l0_4).bind fun t1248 => (some t1248)) else (some (⟨#[]⟩ : ByteArray)))
theorem impl_Braced.mono : ∀ a0 a1 a2 a3 a4 k, LeO (impl_Braced.f k a0 a1 a2 a3 a4) (impl_Braced.f (k + 1) a0 a1 a2 a3 a4) := by
  intro a0 a1 a2 a3 a4 k
  unfold impl_Braced.f
  repeat' first
      | (with_reducible exact impl_TreeOk.mono _ _ _ _ _ _)
      | (with_reducible exact impl_braced.mono _ _ _ _ _ _)
      | (with_reducible exact LeO.refl _)
      | (with_reducible exact LeO.none _)
      | (with_reducible refine LeO.ite ?_ ?_)
      | (with_reducible refine LeO.bind ?_ (fun _ => ?_))
      | exact impl_TreeOk.mono _ _ _ _ _ _
      | exact impl_braced.mono _ _ _ _ _ _
      | exact LeO.none _
      | refine LeO.ite ?_ ?_
      | refine LeO.bind ?_ (fun _ => ?_)
set_option maxHeartbeats 8000000 in
set_option maxRecDepth 100000 in
theorem impl_Braced.calls (k : Nat) (a0_0 : Int) (a0_1 : Int) (a0_2 : ByteArray) (A0_3 : Option Addr) (c0_3 : Nat) (l0_3 : List ByteArray) (A0_4 : Option Addr) (c0_4 : Nat) (l0_4 : List (S25)) (r : ByteArray) (w : World) (hr0_3 : Kd.C Kd.string w A0_3 l0_3.length l0_3) (hc0_3 : l0_3.length ≤ c0_3) (hr0_4 : Kd.C k25 w A0_4 l0_4.length l0_4) (hc0_4 : l0_4.length ≤ c0_4) (h : impl_Braced.f k a0_0 a0_1 a0_2 l0_3 l0_4 = some r) :
    Calls Try.prog 59 #[.agg #[.int .i64 a0_0, .int .i64 a0_1, .string a0_2, .slice A0_3 l0_3.length c0_3, .slice A0_4 l0_4.length c0_4]] w fun e w' => e = .returned (.string r) ∧ Below w.heap.size w w' := by
  have hu25 := Try.underlying25
  have HR0_3 := Aside0.mk hr0_3
  have HC0_3 := Aside0.mk hc0_3
  clear hr0_3 hc0_3
  have HR0_4 := Aside0.mk hr0_4
  have HC0_4 := Aside0.mk hc0_4
  clear hr0_4 hc0_4
  have HB := Aside0.mk (Below.refl w.heap.size w)
  have H : ((impl_TreeOk.f k a0_0 a0_1 a0_2 l0_3 l0_4).bind fun t1247 => (if t1247 = true then ((impl_braced.f k a0_0 a0_1 a0_2 l0_3 l0_4).bind fun t1248 => (some t1248)) else (some (⟨#[]⟩ : ByteArray)))) = some r := h
  clear h
  replace H := Option.bind_eq_some_iff.mp H
  obtain ⟨t1247, A20, H⟩ := H
  replace H : (if t1247 = true then ((impl_braced.f k a0_0 a0_1 a0_2 l0_3 l0_4).bind fun t1248 => (some t1248)) else (some (⟨#[]⟩ : ByteArray))) = some r := H
  have A2 := Aside0.mk A20
  clear A20
  have HC3 := Aside0.mk H
  clear H
  go_enter Try.func59, Try.ntmps59
  go_upto_if 5 with (first | ((with_reducible refine gate_dst (N := 1) rfl ?_); refine box_event ?hg (N := 1) ?hd (cs := #[.int .i64 a0_0, .int .i64 a0_1, .string a0_2, .slice A0_3 l0_3.length c0_3, .slice A0_4 l0_4.length c0_4]) (t := 25) ?hr ?_; (case hd => rfl); (case hg => rfl); (case hr => first | (go_simp; done) | (go_simp; rfl)); intro gb1246 hg w4 hbox hb; have n0_ := Aside0.mk (below_step (by repeat (first | (with_reducible first | exact HB.out | apply below_alloc | apply pw_below_drewN | apply below_drew1) | exact HB.out)) hb); have n1_ := Aside0.mk (hbox); have n2_ := Aside0.mk ((by rw [hg]; exact (below_size (by repeat (first | (with_reducible first | exact HB.out | apply below_alloc | apply pw_below_drewN | apply below_drew1) | exact HB.out))) : w.heap.size ≤ gb1246)); have n3_ := Aside0.mk ((by rw [hg]; exact (below_size (by repeat (first | (with_reducible first | exact HB.out | apply below_alloc | apply pw_below_drewN | apply below_drew1) | exact HB.out))) : w.heap.size ≤ gb1246)); clear HB; have HB := n0_; have BK1246 := n1_; have GW1246 := n2_; have GE1246 := n3_; clear n0_ n1_ n2_ n3_; clear hb hbox hg; have hcz5_0 : w4.cell? ⟨gb1246, 0, none⟩ = some (.int .i64 a0_0) := (blk_cell BK1246.out 0).trans rfl; have hcz5_1 : w4.cell? ⟨gb1246, 1, none⟩ = some (.int .i64 a0_1) := (blk_cell BK1246.out 1).trans rfl; have hcz5_2 : w4.cell? ⟨gb1246, 2, none⟩ = some (.string a0_2) := (blk_cell BK1246.out 2).trans rfl; have hcz5_3 : w4.cell? ⟨gb1246, 3, none⟩ = some (.slice A0_3 l0_3.length c0_3) := (blk_cell BK1246.out 3).trans rfl; have hcz5_4 : w4.cell? ⟨gb1246, 4, none⟩ = some (.slice A0_4 l0_4.length c0_4) := (blk_cell BK1246.out 4).trans rfl; have hfz5_0 := blk_frozen BK1246.out 0; have hfz5_1 := blk_frozen BK1246.out 1; have hfz5_2 := blk_frozen BK1246.out 2; have hfz5_3 := blk_frozen BK1246.out 3; have hfz5_4 := blk_frozen BK1246.out 4) | ((with_reducible refine gate_callee (f := 46) rfl ?_); refine goesL_ (some 4) rfl rfl Try.func46 (by kernel_rfl) rfl #[.agg #[.int .i64 a0_0, .int .i64 a0_1, .string a0_2, .slice A0_3 l0_3.length c0_3, .slice A0_4 l0_4.length c0_4]] rfl (by (try simp only [List.map_toArray, List.map_cons, List.map_nil]); first | done | rfl | (simp only [List.length_drop, List.length_take]; rfl)) ?_; (with_reducible refine (impl_TreeOk.calls k a0_0 a0_1 a0_2 _ _ l0_3 _ _ l0_4 t1247 _ ?side1 ?side2 ?side3 ?side4 A2.out).mono ?_); (case side1 => repeat (first | exact (Kd.C_below HR0_3.out HB.out) | (with_reducible refine Kd.C_alloc ?_ _) | (with_reducible refine Kd.C_drewN ?_ _) | (with_reducible refine Kd.C_drew ?_))); (case side2 => exact HC0_3.out); (case side3 => repeat (first | exact (Kd.C_below HR0_4.out HB.out) | (with_reducible refine Kd.C_alloc ?_ _) | (with_reducible refine Kd.C_drewN ?_ _) | (with_reducible refine Kd.C_drew ?_))); (case side4 => exact HC0_4.out); rintro e w6 ⟨rfl, hb⟩; refine ⟨_, rfl, ?_⟩; have n0_ := Aside0.mk (blk_below (g := gb1246) (o := .cells #[.int .i64 a0_0, .int .i64 a0_1, .string a0_2, .slice A0_3 l0_3.length c0_3, .slice A0_4 l0_4.length c0_4] 25 (0, 0)) (by (with_reducible repeat (first | refine blk_drewN ?_ _ | refine blk_drew ?_ | refine blk_alloc ?_ _)); exact BK1246.out) hb); have n1_ := Aside0.mk (below_step (by repeat (first | (with_reducible first | exact HB.out | apply below_alloc | apply pw_below_drewN | apply below_drew1 | refine below_set ?_ GE1246.out) | exact HB.out)) hb); clear BK1246; clear HB; have BK1246 := n0_; have HB := n1_; clear n0_ n1_; (try clear hb); (try clear hb2); (try clear hk); (try clear hi)))
  (try simp only [Act.put, List.setIfInBounds_toArray, List.set_cons_zero, List.set_cons_succ])
  have H := HC3.out
  clear HC3
  by_cases c7 : t1247 = true
  · subst c7
    have H1 : ((impl_braced.f k a0_0 a0_1 a0_2 l0_3 l0_4).bind fun t1248 => (some t1248)) = some r := by rw [if_pos rfl] at H; exact H
    clear H
    have H := H1
    clear H1
    replace H := Option.bind_eq_some_iff.mp H
    obtain ⟨t1248, A80, H⟩ := H
    replace H : (some t1248) = some r := H
    have A8 := Aside0.mk A80
    clear A80
    obtain rfl := Option.some.inj H
    have hcz9_0 : w6.cell? ⟨gb1246, 0, none⟩ = some (.int .i64 a0_0) := (blk_cell BK1246.out 0).trans rfl
    have hcz9_1 : w6.cell? ⟨gb1246, 1, none⟩ = some (.int .i64 a0_1) := (blk_cell BK1246.out 1).trans rfl
    have hcz9_2 : w6.cell? ⟨gb1246, 2, none⟩ = some (.string a0_2) := (blk_cell BK1246.out 2).trans rfl
    have hcz9_3 : w6.cell? ⟨gb1246, 3, none⟩ = some (.slice A0_3 l0_3.length c0_3) := (blk_cell BK1246.out 3).trans rfl
    have hcz9_4 : w6.cell? ⟨gb1246, 4, none⟩ = some (.slice A0_4 l0_4.length c0_4) := (blk_cell BK1246.out 4).trans rfl
    have hfz9_0 := blk_frozen BK1246.out 0
    have hfz9_1 := blk_frozen BK1246.out 1
    have hfz9_2 := blk_frozen BK1246.out 2
    have hfz9_3 := blk_frozen BK1246.out 3
    have hfz9_4 := blk_frozen BK1246.out 4
    go_wp2_with (first | ((with_reducible refine gate_callee (f := 112) rfl ?_); refine goesL_ (some 7) rfl rfl Try.func112 (by kernel_rfl) rfl #[.agg #[.int .i64 a0_0, .int .i64 a0_1, .string a0_2, .slice A0_3 l0_3.length c0_3, .slice A0_4 l0_4.length c0_4]] rfl (by (try simp only [List.map_toArray, List.map_cons, List.map_nil]); first | done | rfl | (simp only [List.length_drop, List.length_take]; rfl)) ?_; (with_reducible refine (impl_braced.calls k a0_0 a0_1 a0_2 _ _ l0_3 _ _ l0_4 t1248 _ ?side1 ?side2 ?side3 ?side4 A8.out).mono ?_); (case side1 => repeat (first | exact (Kd.C_below HR0_3.out HB.out) | (with_reducible refine Kd.C_alloc ?_ _) | (with_reducible refine Kd.C_drewN ?_ _) | (with_reducible refine Kd.C_drew ?_))); (case side2 => exact HC0_3.out); (case side3 => repeat (first | exact (Kd.C_below HR0_4.out HB.out) | (with_reducible refine Kd.C_alloc ?_ _) | (with_reducible refine Kd.C_drewN ?_ _) | (with_reducible refine Kd.C_drew ?_))); (case side4 => exact HC0_4.out); rintro e w10 ⟨rfl, hb⟩; refine ⟨_, rfl, ?_⟩; have n0_ := Aside0.mk (blk_below (g := gb1246) (o := .cells #[.int .i64 a0_0, .int .i64 a0_1, .string a0_2, .slice A0_3 l0_3.length c0_3, .slice A0_4 l0_4.length c0_4] 25 (0, 0)) (by (with_reducible repeat (first | refine blk_drewN ?_ _ | refine blk_drew ?_ | refine blk_alloc ?_ _)); exact BK1246.out) hb); have n1_ := Aside0.mk (below_step (by repeat (first | (with_reducible first | exact HB.out | apply below_alloc | apply pw_below_drewN | apply below_drew1 | refine below_set ?_ GE1246.out) | exact HB.out)) hb); clear BK1246; clear HB; have BK1246 := n0_; have HB := n1_; clear n0_ n1_; (try clear hb); (try clear hb2); (try clear hk); (try clear hi)))
    go_ret
    exact ⟨by first | rfl | (simp [errW_none, errW_some] <;> rfl) | (simp [*, errW_none, errW_some] <;> rfl), by repeat (first | (with_reducible first | exact HB.out | apply below_alloc | apply pw_below_drewN | apply below_drew1 | refine below_set ?_ GE1246.out) | exact HB.out)⟩
  · replace c7 := Bool.eq_false_iff.mpr c7
    subst c7
    have H1 : (some (⟨#[]⟩ : ByteArray)) = some r := by rw [if_neg (show ¬ (false = true) by decide)] at H; exact H
    clear H
    have H := H1
    clear H1
    obtain rfl := Option.some.inj H
    go_wp2
    go_ret
    exact ⟨by first | rfl | (simp [errW_none, errW_some] <;> rfl) | (simp [*, errW_none, errW_some] <;> rfl), by repeat (first | (with_reducible first | exact HB.out | apply below_alloc | apply pw_below_drewN | apply below_drew1 | refine below_set ?_ GE1246.out) | exact HB.out)⟩

end Go.Proofs.Ytnbnpgjgibcmpaa.P
