-- Made by drive.py (a program of this session) over the kit's print; not written line by line by a hand.
import Derived.Test.YtnbnpgjgibcmpaaP0
import Derived.Test.YtnbnpgjgibcmpaaP_impl_shapeOk
import Derived.Test.YtnbnpgjgibcmpaaP_laws_eqStringS
import Derived.Test.YtnbnpgjgibcmpaaP_laws_szStringS
import Derived.Test.YtnbnpgjgibcmpaaP_spec_l3Right
namespace Go.Proofs.Ytnbnpgjgibcmpaa.P
open Go.RowKit Go.Proofs.YtnbnpgjgibcmpaaW.PrintWords Go.Proofs.YtnbnpgjgibcmpaaW.PrintLast Go.Proofs.YtnbnpgjgibcmpaaW.PrintMore
attribute [local go_sem] max2_int min2_int max_two min_two max_three min_three max_four min_four   -- for this text's walks alone
set_option linter.unusedVariables false
set_option linter.unusedSimpArgs false

/-! ### laws_FnExactTreeOk: function 10 -/
def laws_FnExactTreeOk.f (k : Nat) (a0_0 : Int) (a0_1 : Int) (a0_2 : ByteArray) (l0_3 : List ByteArray) (l0_4 : List (S36)) : Option (Bool) := (laws_szNode.f k a0_0 a0_1 a0_2 l0_3 l0_4 1048576).bind fun t783 => (if t783 < 0 then (some true) else ((laws_toNode.f k a0_0 a0_1 a0_2 l0_3 l0_4).bind fun bt784 => ((spec_TreeOk.f k bt784.1 bt784.2.1 bt784.2.2.1 bt784.2.2.2.1 bt784.2.2.2.2).bind fun t793 => ((laws_toNode.f k a0_0 a0_1 a0_2 l0_3 l0_4).bind fun bt794 => ((impl_TreeOk.f k bt794.1 bt794.2.1 bt794.2.2.1 bt794.2.2.2.1 bt794.2.2.2.2).bind fun t804 => (if (t804 != t793) = true then (some false) else ((laws_toNode.f k a0_0 a0_1 a0_2 l0_3 l0_4).bind fun bt805 => ((laws_eqNode.f k bt794.1 bt794.2.1 bt794.2.2.1 bt794.2.2.2.1 bt794.2.2.2.2 bt805.1 bt805.2.1 bt805.2.2.1 bt805.2.2.2.1 bt805.2.2.2.2).bind fun t814 => (if t814 = true then (some true) else (some false))))))))))
theorem laws_FnExactTreeOk.mono : ∀ a0 a1 a2 a3 a4 k, LeO (laws_FnExactTreeOk.f k a0 a1 a2 a3 a4) (laws_FnExactTreeOk.f (k + 1) a0 a1 a2 a3 a4) := by
  intro a0 a1 a2 a3 a4 k
  unfold laws_FnExactTreeOk.f
  repeat' first
      | (with_reducible exact impl_TreeOk.mono _ _ _ _ _ _)
      | (with_reducible exact laws_eqNode.mono _ _ _ _ _ _ _ _ _ _ _)
      | (with_reducible exact laws_szNode.mono _ _ _ _ _ _ _)
      | (with_reducible exact laws_toNode.mono _ _ _ _ _ _)
      | (with_reducible exact spec_TreeOk.mono _ _ _ _ _ _)
      | (with_reducible exact LeO.refl _)
      | (with_reducible exact LeO.none _)
      | (with_reducible refine LeO.ite ?_ ?_)
      | (with_reducible refine LeO.bind ?_ (fun _ => ?_))
      | exact impl_TreeOk.mono _ _ _ _ _ _
      | exact laws_eqNode.mono _ _ _ _ _ _ _ _ _ _ _
      | exact laws_szNode.mono _ _ _ _ _ _ _
      | exact laws_toNode.mono _ _ _ _ _ _
      | exact spec_TreeOk.mono _ _ _ _ _ _
      | exact LeO.none _
      | refine LeO.ite ?_ ?_
      | refine LeO.bind ?_ (fun _ => ?_)
set_option maxHeartbeats 8000000 in
set_option maxRecDepth 100000 in
theorem laws_FnExactTreeOk.calls (k : Nat) (a0_0 : Int) (a0_1 : Int) (a0_2 : ByteArray) (A0_3 : Option Addr) (c0_3 : Nat) (l0_3 : List ByteArray) (A0_4 : Option Addr) (c0_4 : Nat) (l0_4 : List (S36)) (r : Bool) (w : World) (hr0_3 : Kd.C Kd.string w A0_3 l0_3.length l0_3) (hc0_3 : l0_3.length ≤ c0_3) (hr0_4 : Kd.C k36 w A0_4 l0_4.length l0_4) (hc0_4 : l0_4.length ≤ c0_4) (h : laws_FnExactTreeOk.f k a0_0 a0_1 a0_2 l0_3 l0_4 = some r) :
    Calls Try.prog 10 #[.agg #[.int .i64 a0_0, .int .i64 a0_1, .string a0_2, .slice A0_3 l0_3.length c0_3, .slice A0_4 l0_4.length c0_4]] w fun e w' => e = .returned (.bool r) ∧ Below w.heap.size w w' := by
  have hu36 := Try.underlying36
  have hu25 := Try.underlying25
  have HR0_3 := Aside0.mk hr0_3
  have HC0_3 := Aside0.mk hc0_3
  clear hr0_3 hc0_3
  have HR0_4 := Aside0.mk hr0_4
  have HC0_4 := Aside0.mk hc0_4
  clear hr0_4 hc0_4
  have HB := Aside0.mk (Below.refl w.heap.size w)
  have H : ((laws_szNode.f k a0_0 a0_1 a0_2 l0_3 l0_4 1048576).bind fun t783 => (if t783 < 0 then (some true) else ((laws_toNode.f k a0_0 a0_1 a0_2 l0_3 l0_4).bind fun bt784 => ((spec_TreeOk.f k bt784.1 bt784.2.1 bt784.2.2.1 bt784.2.2.2.1 bt784.2.2.2.2).bind fun t793 => ((laws_toNode.f k a0_0 a0_1 a0_2 l0_3 l0_4).bind fun bt794 => ((impl_TreeOk.f k bt794.1 bt794.2.1 bt794.2.2.1 bt794.2.2.2.1 bt794.2.2.2.2).bind fun t804 => (if (t804 != t793) = true then (some false) else ((laws_toNode.f k a0_0 a0_1 a0_2 l0_3 l0_4).bind fun bt805 => ((laws_eqNode.f k bt794.1 bt794.2.1 bt794.2.2.1 bt794.2.2.2.1 bt794.2.2.2.2 bt805.1 bt805.2.1 bt805.2.2.1 bt805.2.2.2.1 bt805.2.2.2.2).bind fun t814 => (if t814 = true then (some true) else (some false))))))))))) = some r := h
  clear h
  replace H := Option.bind_eq_some_iff.mp H
  obtain ⟨t783, A20, H⟩ := H
  replace H : (if t783 < 0 then (some true) else ((laws_toNode.f k a0_0 a0_1 a0_2 l0_3 l0_4).bind fun bt784 => ((spec_TreeOk.f k bt784.1 bt784.2.1 bt784.2.2.1 bt784.2.2.2.1 bt784.2.2.2.2).bind fun t793 => ((laws_toNode.f k a0_0 a0_1 a0_2 l0_3 l0_4).bind fun bt794 => ((impl_TreeOk.f k bt794.1 bt794.2.1 bt794.2.2.1 bt794.2.2.2.1 bt794.2.2.2.2).bind fun t804 => (if (t804 != t793) = true then (some false) else ((laws_toNode.f k a0_0 a0_1 a0_2 l0_3 l0_4).bind fun bt805 => ((laws_eqNode.f k bt794.1 bt794.2.1 bt794.2.2.1 bt794.2.2.2.1 bt794.2.2.2.2 bt805.1 bt805.2.1 bt805.2.2.1 bt805.2.2.2.1 bt805.2.2.2.2).bind fun t814 => (if t814 = true then (some true) else (some false)))))))))) = some r := H
  have A2 := Aside0.mk A20
  clear A20
  have HC3 := Aside0.mk H
  clear H
  go_enter Try.func10, Try.ntmps10
  go_upto_if 11 with (first | ((with_reducible refine gate_dst (N := 1) rfl ?_); refine box_event ?hg (N := 1) ?hd (cs := #[.int .i64 a0_0, .int .i64 a0_1, .string a0_2, .slice A0_3 l0_3.length c0_3, .slice A0_4 l0_4.length c0_4]) (t := 36) ?hr ?_; (case hd => rfl); (case hg => rfl); (case hr => first | (go_simp; done) | (go_simp; rfl)); intro gb782 hg w4 hbox hb; have n0_ := Aside0.mk (below_step (by repeat (first | (with_reducible first | exact HB.out | apply below_alloc | apply pw_below_drewN | apply below_drew1) | exact HB.out)) hb); have n1_ := Aside0.mk (hbox); have n2_ := Aside0.mk ((by rw [hg]; exact (below_size (by repeat (first | (with_reducible first | exact HB.out | apply below_alloc | apply pw_below_drewN | apply below_drew1) | exact HB.out))) : w.heap.size ≤ gb782)); have n3_ := Aside0.mk ((by rw [hg]; exact (below_size (by repeat (first | (with_reducible first | exact HB.out | apply below_alloc | apply pw_below_drewN | apply below_drew1) | exact HB.out))) : w.heap.size ≤ gb782)); clear HB; have HB := n0_; have BK782 := n1_; have GW782 := n2_; have GE782 := n3_; clear n0_ n1_ n2_ n3_; clear hb hbox hg; have hcz5_0 : w4.cell? ⟨gb782, 0, none⟩ = some (.int .i64 a0_0) := (blk_cell BK782.out 0).trans rfl; have hcz5_1 : w4.cell? ⟨gb782, 1, none⟩ = some (.int .i64 a0_1) := (blk_cell BK782.out 1).trans rfl; have hcz5_2 : w4.cell? ⟨gb782, 2, none⟩ = some (.string a0_2) := (blk_cell BK782.out 2).trans rfl; have hcz5_3 : w4.cell? ⟨gb782, 3, none⟩ = some (.slice A0_3 l0_3.length c0_3) := (blk_cell BK782.out 3).trans rfl; have hcz5_4 : w4.cell? ⟨gb782, 4, none⟩ = some (.slice A0_4 l0_4.length c0_4) := (blk_cell BK782.out 4).trans rfl; have hfz5_0 := blk_frozen BK782.out 0; have hfz5_1 := blk_frozen BK782.out 1; have hfz5_2 := blk_frozen BK782.out 2; have hfz5_3 := blk_frozen BK782.out 3; have hfz5_4 := blk_frozen BK782.out 4) | ((with_reducible refine gate_callee (f := 28) rfl ?_); refine goesL_ (some 9) rfl rfl Try.func28 (by kernel_rfl) rfl #[.agg #[.int .i64 a0_0, .int .i64 a0_1, .string a0_2, .slice A0_3 l0_3.length c0_3, .slice A0_4 l0_4.length c0_4], .int .i64 1048576] rfl (by (try simp only [List.map_toArray, List.map_cons, List.map_nil]); first | done | rfl | (simp only [List.length_drop, List.length_take]; rfl)) ?_; (with_reducible refine (laws_szNode.calls k a0_0 a0_1 a0_2 _ _ l0_3 _ _ l0_4 1048576 t783 _ ?side1 ?side2 ?side3 ?side4 A2.out).mono ?_); (case side1 => repeat (first | exact (Kd.C_below HR0_3.out HB.out) | (with_reducible refine Kd.C_alloc ?_ _) | (with_reducible refine Kd.C_drewN ?_ _) | (with_reducible refine Kd.C_drew ?_))); (case side2 => exact HC0_3.out); (case side3 => repeat (first | exact (Kd.C_below HR0_4.out HB.out) | (with_reducible refine Kd.C_alloc ?_ _) | (with_reducible refine Kd.C_drewN ?_ _) | (with_reducible refine Kd.C_drew ?_))); (case side4 => exact HC0_4.out); rintro e w6 ⟨rfl, hb⟩; refine ⟨_, rfl, ?_⟩; have n0_ := Aside0.mk (blk_below (g := gb782) (o := .cells #[.int .i64 a0_0, .int .i64 a0_1, .string a0_2, .slice A0_3 l0_3.length c0_3, .slice A0_4 l0_4.length c0_4] 36 (0, 0)) (by (with_reducible repeat (first | refine blk_drewN ?_ _ | refine blk_drew ?_ | refine blk_alloc ?_ _)); exact BK782.out) hb); have n1_ := Aside0.mk (below_step (by repeat (first | (with_reducible first | exact HB.out | apply below_alloc | apply pw_below_drewN | apply below_drew1 | refine below_set ?_ GE782.out) | exact HB.out)) hb); clear BK782; clear HB; have BK782 := n0_; have HB := n1_; clear n0_ n1_; (try clear hb); (try clear hb2); (try clear hk); (try clear hi)))
  (try simp only [Act.put, List.setIfInBounds_toArray, List.set_cons_zero, List.set_cons_succ])
  have H := HC3.out
  clear HC3
  by_cases c7 : t783 < 0
  · rw [if_pos c7] at H
    have c7b0 : decide (t783 < 0) = true := decide_eq_true c7
    clear c7
    (first | rw [c7b0] | (simp only [i64_w, i32_w]; rw [c7b0]) | skip)
    obtain rfl := Option.some.inj H
    go_wp2
    go_ret
    exact ⟨by first | rfl | (simp [errW_none, errW_some] <;> rfl) | (simp [*, errW_none, errW_some] <;> rfl), by repeat (first | (with_reducible first | exact HB.out | apply below_alloc | apply pw_below_drewN | apply below_drew1 | refine below_set ?_ GE782.out) | exact HB.out)⟩
  · rw [if_neg c7] at H
    have c7b0 : decide (t783 < 0) = false := decide_eq_false c7
    clear c7
    (first | rw [c7b0] | (simp only [i64_w, i32_w]; rw [c7b0]) | skip)
    replace H := Option.bind_eq_some_iff.mp H
    obtain ⟨⟨t784, t785, t786, t787, t790⟩, A80, H⟩ := H
    replace H : ((spec_TreeOk.f k t784 t785 t786 t787 t790).bind fun t793 => ((laws_toNode.f k a0_0 a0_1 a0_2 l0_3 l0_4).bind fun bt794 => ((impl_TreeOk.f k bt794.1 bt794.2.1 bt794.2.2.1 bt794.2.2.2.1 bt794.2.2.2.2).bind fun t804 => (if (t804 != t793) = true then (some false) else ((laws_toNode.f k a0_0 a0_1 a0_2 l0_3 l0_4).bind fun bt805 => ((laws_eqNode.f k bt794.1 bt794.2.1 bt794.2.2.1 bt794.2.2.2.1 bt794.2.2.2.2 bt805.1 bt805.2.1 bt805.2.2.1 bt805.2.2.2.1 bt805.2.2.2.2).bind fun t814 => (if t814 = true then (some true) else (some false)))))))) = some r := H
    have A8 := Aside0.mk A80
    clear A80
    replace H := Option.bind_eq_some_iff.mp H
    obtain ⟨t793, A90, H⟩ := H
    replace H : ((laws_toNode.f k a0_0 a0_1 a0_2 l0_3 l0_4).bind fun bt794 => ((impl_TreeOk.f k bt794.1 bt794.2.1 bt794.2.2.1 bt794.2.2.2.1 bt794.2.2.2.2).bind fun t804 => (if (t804 != t793) = true then (some false) else ((laws_toNode.f k a0_0 a0_1 a0_2 l0_3 l0_4).bind fun bt805 => ((laws_eqNode.f k bt794.1 bt794.2.1 bt794.2.2.1 bt794.2.2.2.1 bt794.2.2.2.2 bt805.1 bt805.2.1 bt805.2.2.1 bt805.2.2.2.1 bt805.2.2.2.2).bind fun t814 => (if t814 = true then (some true) else (some false))))))) = some r := H
    have A9 := Aside0.mk A90
    clear A90
    replace H := Option.bind_eq_some_iff.mp H
    obtain ⟨⟨t794, t795, t796, t797, t800⟩, A100, H⟩ := H
    replace H : ((impl_TreeOk.f k t794 t795 t796 t797 t800).bind fun t804 => (if (t804 != t793) = true then (some false) else ((laws_toNode.f k a0_0 a0_1 a0_2 l0_3 l0_4).bind fun bt805 => ((laws_eqNode.f k t794 t795 t796 t797 t800 bt805.1 bt805.2.1 bt805.2.2.1 bt805.2.2.2.1 bt805.2.2.2.2).bind fun t814 => (if t814 = true then (some true) else (some false)))))) = some r := H
    have A10 := Aside0.mk A100
    clear A100
    replace H := Option.bind_eq_some_iff.mp H
    obtain ⟨t804, A110, H⟩ := H
    replace H : (if (t804 != t793) = true then (some false) else ((laws_toNode.f k a0_0 a0_1 a0_2 l0_3 l0_4).bind fun bt805 => ((laws_eqNode.f k t794 t795 t796 t797 t800 bt805.1 bt805.2.1 bt805.2.2.1 bt805.2.2.2.1 bt805.2.2.2.2).bind fun t814 => (if t814 = true then (some true) else (some false))))) = some r := H
    have A11 := Aside0.mk A110
    clear A110
    have HC12 := Aside0.mk H
    clear H
    have hcz13_0 : w6.cell? ⟨gb782, 0, none⟩ = some (.int .i64 a0_0) := (blk_cell BK782.out 0).trans rfl
    have hcz13_1 : w6.cell? ⟨gb782, 1, none⟩ = some (.int .i64 a0_1) := (blk_cell BK782.out 1).trans rfl
    have hcz13_2 : w6.cell? ⟨gb782, 2, none⟩ = some (.string a0_2) := (blk_cell BK782.out 2).trans rfl
    have hcz13_3 : w6.cell? ⟨gb782, 3, none⟩ = some (.slice A0_3 l0_3.length c0_3) := (blk_cell BK782.out 3).trans rfl
    have hcz13_4 : w6.cell? ⟨gb782, 4, none⟩ = some (.slice A0_4 l0_4.length c0_4) := (blk_cell BK782.out 4).trans rfl
    have hfz13_0 := blk_frozen BK782.out 0
    have hfz13_1 := blk_frozen BK782.out 1
    have hfz13_2 := blk_frozen BK782.out 2
    have hfz13_3 := blk_frozen BK782.out 3
    have hfz13_4 := blk_frozen BK782.out 4
    go_upto_if 21 with (first | ((with_reducible refine gate_callee (f := 30) rfl ?_); refine goesL_ (some 13) rfl rfl Try.func30 (by kernel_rfl) rfl #[.agg #[.int .i64 a0_0, .int .i64 a0_1, .string a0_2, .slice A0_3 l0_3.length c0_3, .slice A0_4 l0_4.length c0_4]] rfl (by (try simp only [List.map_toArray, List.map_cons, List.map_nil]); first | done | rfl | (simp only [List.length_drop, List.length_take]; rfl)) ?_; (with_reducible refine (laws_toNode.calls k a0_0 a0_1 a0_2 _ _ l0_3 _ _ l0_4 t784 t785 t786 t787 t790 _ ?side1 ?side2 ?side3 ?side4 A8.out).mono ?_); (case side1 => repeat (first | exact (Kd.C_below HR0_3.out HB.out) | (with_reducible refine Kd.C_alloc ?_ _) | (with_reducible refine Kd.C_drewN ?_ _) | (with_reducible refine Kd.C_drew ?_))); (case side2 => exact HC0_3.out); (case side3 => repeat (first | exact (Kd.C_below HR0_4.out HB.out) | (with_reducible refine Kd.C_alloc ?_ _) | (with_reducible refine Kd.C_drewN ?_ _) | (with_reducible refine Kd.C_drew ?_))); (case side4 => exact HC0_4.out); rintro e w14 ⟨v788, v791, rfl, ho0, ho1, hb⟩; refine ⟨_, rfl, ?_⟩; have n0_ := Aside0.mk (Kd.R_lower ho0 (below_size (by repeat (first | (with_reducible first | exact HB.out | apply below_alloc | apply pw_below_drewN | apply below_drew1 | refine below_set ?_ GE782.out) | exact HB.out)))); have n1_ := Aside0.mk (Kd.R_lower ho1 (below_size (by repeat (first | (with_reducible first | exact HB.out | apply below_alloc | apply pw_below_drewN | apply below_drew1 | refine below_set ?_ GE782.out) | exact HB.out)))); have n2_ := Aside0.mk (blk_below (g := gb782) (o := .cells #[.int .i64 a0_0, .int .i64 a0_1, .string a0_2, .slice A0_3 l0_3.length c0_3, .slice A0_4 l0_4.length c0_4] 36 (0, 0)) (by (with_reducible repeat (first | refine blk_drewN ?_ _ | refine blk_drew ?_ | refine blk_alloc ?_ _)); exact BK782.out) hb); have n3_ := Aside0.mk (below_step (by repeat (first | (with_reducible first | exact HB.out | apply below_alloc | apply pw_below_drewN | apply below_drew1 | refine below_set ?_ GE782.out) | exact HB.out)) hb); clear BK782; clear HB; have HO789 := n0_; have HO792 := n1_; have BK782 := n2_; have HB := n3_; clear n0_ n1_ n2_ n3_; (try clear hb); (try clear hb2); (try clear hk); (try clear hi); (try clear ho0); (try clear ho1); obtain ⟨Ao15, co15, eo15⟩ := Kd.R_slice HO789.out; subst eo15; obtain ⟨Ao16, co16, eo16⟩ := Kd.R_slice HO792.out; subst eo16) | ((with_reducible refine gate_callee (f := 45) rfl ?_); refine goesL_ (some 14) rfl rfl Try.func45 (by kernel_rfl) rfl #[.agg #[.int .i64 t784, .int .i64 t785, .string t786, .slice Ao15 t787.length co15, .slice Ao16 t790.length co16]] rfl (by (try simp only [List.map_toArray, List.map_cons, List.map_nil]); first | done | rfl | (simp only [List.length_drop, List.length_take]; rfl)) ?_; (with_reducible refine (spec_TreeOk.calls k t784 t785 t786 _ _ t787 _ _ t790 t793 _ ?side1 ?side2 ?side3 ?side4 A9.out).mono ?_); (case side1 => repeat (first | exact (Kd.R_reads' HO789.out).2.2 | (with_reducible refine Kd.C_alloc ?_ _) | (with_reducible refine Kd.C_drewN ?_ _) | (with_reducible refine Kd.C_drew ?_))); (case side2 => exact (Kd.R_reads' HO789.out).2.1); (case side3 => repeat (first | exact (Kd.R_reads' HO792.out).2.2 | (with_reducible refine Kd.C_alloc ?_ _) | (with_reducible refine Kd.C_drewN ?_ _) | (with_reducible refine Kd.C_drew ?_))); (case side4 => exact (Kd.R_reads' HO792.out).2.1); rintro e w17 ⟨rfl, hb⟩; refine ⟨_, rfl, ?_⟩; have n0_ := Aside0.mk (Kd.R_below (by (with_reducible repeat (first | apply Kd.R_alloc | apply Kd.R_drewN | apply Kd.R_drew)); exact HO789.out) hb); have n1_ := Aside0.mk (Kd.R_below (by (with_reducible repeat (first | apply Kd.R_alloc | apply Kd.R_drewN | apply Kd.R_drew)); exact HO792.out) hb); have n2_ := Aside0.mk (blk_below (g := gb782) (o := .cells #[.int .i64 a0_0, .int .i64 a0_1, .string a0_2, .slice A0_3 l0_3.length c0_3, .slice A0_4 l0_4.length c0_4] 36 (0, 0)) (by (with_reducible repeat (first | refine blk_drewN ?_ _ | refine blk_drew ?_ | refine blk_alloc ?_ _)); exact BK782.out) hb); have n3_ := Aside0.mk (below_step (by repeat (first | (with_reducible first | exact HB.out | apply below_alloc | apply pw_below_drewN | apply below_drew1 | refine below_set ?_ GE782.out) | exact HB.out)) hb); clear HO789; clear HO792; clear BK782; clear HB; have HO789 := n0_; have HO792 := n1_; have BK782 := n2_; have HB := n3_; clear n0_ n1_ n2_ n3_; (try clear hb); (try clear hb2); (try clear hk); (try clear hi); have hcz18_0 : w17.cell? ⟨gb782, 0, none⟩ = some (.int .i64 a0_0) := (blk_cell BK782.out 0).trans rfl; have hcz18_1 : w17.cell? ⟨gb782, 1, none⟩ = some (.int .i64 a0_1) := (blk_cell BK782.out 1).trans rfl; have hcz18_2 : w17.cell? ⟨gb782, 2, none⟩ = some (.string a0_2) := (blk_cell BK782.out 2).trans rfl; have hcz18_3 : w17.cell? ⟨gb782, 3, none⟩ = some (.slice A0_3 l0_3.length c0_3) := (blk_cell BK782.out 3).trans rfl; have hcz18_4 : w17.cell? ⟨gb782, 4, none⟩ = some (.slice A0_4 l0_4.length c0_4) := (blk_cell BK782.out 4).trans rfl; have hfz18_0 := blk_frozen BK782.out 0; have hfz18_1 := blk_frozen BK782.out 1; have hfz18_2 := blk_frozen BK782.out 2; have hfz18_3 := blk_frozen BK782.out 3; have hfz18_4 := blk_frozen BK782.out 4) | ((with_reducible refine gate_callee (f := 30) rfl ?_); refine goesL_ (some 16) rfl rfl Try.func30 (by kernel_rfl) rfl #[.agg #[.int .i64 a0_0, .int .i64 a0_1, .string a0_2, .slice A0_3 l0_3.length c0_3, .slice A0_4 l0_4.length c0_4]] rfl (by (try simp only [List.map_toArray, List.map_cons, List.map_nil]); first | done | rfl | (simp only [List.length_drop, List.length_take]; rfl)) ?_; (with_reducible refine (laws_toNode.calls k a0_0 a0_1 a0_2 _ _ l0_3 _ _ l0_4 t794 t795 t796 t797 t800 _ ?side1 ?side2 ?side3 ?side4 A10.out).mono ?_); (case side1 => repeat (first | exact (Kd.C_below HR0_3.out HB.out) | (with_reducible refine Kd.C_alloc ?_ _) | (with_reducible refine Kd.C_drewN ?_ _) | (with_reducible refine Kd.C_drew ?_))); (case side2 => exact HC0_3.out); (case side3 => repeat (first | exact (Kd.C_below HR0_4.out HB.out) | (with_reducible refine Kd.C_alloc ?_ _) | (with_reducible refine Kd.C_drewN ?_ _) | (with_reducible refine Kd.C_drew ?_))); (case side4 => exact HC0_4.out); rintro e w19 ⟨v798, v801, rfl, ho0, ho1, hb⟩; refine ⟨_, rfl, ?_⟩; have n0_ := Aside0.mk (Kd.R_elder' (by (with_reducible repeat (first | apply Kd.R_alloc | apply Kd.R_drewN | apply Kd.R_drew)); exact HO789.out) (Kd.R_base ho0) hb); have n1_ := Aside0.mk (Kd.R_mono (Kd.R_told (Kd.R_told (Kd.R_old (by (with_reducible repeat (first | apply Kd.R_alloc | apply Kd.R_drewN | apply Kd.R_drew)); exact HO792.out) hb) (Kd.R_base ho0)) (Kd.R_base ho1)) (fun _ h_ => h_.1)); have n2_ := Aside0.mk (Kd.R_lower (Kd.R_new' ho0 (Kd.R_lt (by (with_reducible repeat (first | apply Kd.R_alloc | apply Kd.R_drewN | apply Kd.R_drew)); exact HO789.out))) (below_size (by repeat (first | (with_reducible first | exact HB.out | apply below_alloc | apply pw_below_drewN | apply below_drew1 | refine below_set ?_ GE782.out) | exact HB.out)))); have n3_ := Aside0.mk (Kd.R_lower (Kd.R_new' (Kd.R_new' ho1 (Kd.R_lt (by (with_reducible repeat (first | apply Kd.R_alloc | apply Kd.R_drewN | apply Kd.R_drew)); exact HO789.out))) (Kd.R_lt (by (with_reducible repeat (first | apply Kd.R_alloc | apply Kd.R_drewN | apply Kd.R_drew)); exact HO792.out))) (below_size (by repeat (first | (with_reducible first | exact HB.out | apply below_alloc | apply pw_below_drewN | apply below_drew1 | refine below_set ?_ GE782.out) | exact HB.out)))); have n4_ := Aside0.mk (blk_below (g := gb782) (o := .cells #[.int .i64 a0_0, .int .i64 a0_1, .string a0_2, .slice A0_3 l0_3.length c0_3, .slice A0_4 l0_4.length c0_4] 36 (0, 0)) (by (with_reducible repeat (first | refine blk_drewN ?_ _ | refine blk_drew ?_ | refine blk_alloc ?_ _)); exact BK782.out) hb); have n5_ := Aside0.mk (below_step (by repeat (first | (with_reducible first | exact HB.out | apply below_alloc | apply pw_below_drewN | apply below_drew1 | refine below_set ?_ GE782.out) | exact HB.out)) hb); clear HO789; clear HO792; clear BK782; clear HB; have HO789 := n0_; have HO792 := n1_; have HO799 := n2_; have HO802 := n3_; have BK782 := n4_; have HB := n5_; clear n0_ n1_ n2_ n3_ n4_ n5_; (try clear hb); (try clear hb2); (try clear hk); (try clear hi); (try clear ho0); (try clear ho1)) | ((with_reducible refine gate_dst (N := 5) rfl ?_); refine box_event ?hg (N := 5) ?hd (cs := #[.int .i64 0, .int .i64 0, .string (⟨#[]⟩ : ByteArray), .slice none 0 0, .slice none 0 0]) (t := 25) ?hr ?_; (case hd => rfl); (case hg => rfl); (case hr => first | (go_simp; done) | (go_simp; rfl)); intro gb803 hg w20 hbox hb; have n0_ := Aside0.mk (Kd.R_below (by (with_reducible repeat (first | apply Kd.R_alloc | apply Kd.R_drewN | apply Kd.R_drew)); exact HO789.out) hb); have n1_ := Aside0.mk (Kd.R_below (Kd.R_elderB (by (with_reducible repeat (first | apply Kd.R_alloc | apply Kd.R_drewN | apply Kd.R_drew)); exact HO792.out) gb803 (Nat.le_of_eq hg.symm)) hb); have n2_ := Aside0.mk (Kd.R_below (by (with_reducible repeat (first | apply Kd.R_alloc | apply Kd.R_drewN | apply Kd.R_drew)); exact HO799.out) hb); have n3_ := Aside0.mk (Kd.R_below (Kd.R_elderB (by (with_reducible repeat (first | apply Kd.R_alloc | apply Kd.R_drewN | apply Kd.R_drew)); exact HO802.out) gb803 (Nat.le_of_eq hg.symm)) hb); have n4_ := Aside0.mk (blk_below (g := gb782) (o := .cells #[.int .i64 a0_0, .int .i64 a0_1, .string a0_2, .slice A0_3 l0_3.length c0_3, .slice A0_4 l0_4.length c0_4] 36 (0, 0)) (by (with_reducible repeat (first | refine blk_drewN ?_ _ | refine blk_drew ?_ | refine blk_alloc ?_ _)); exact BK782.out) hb); have n5_ := Aside0.mk (below_step (by repeat (first | (with_reducible first | exact HB.out | apply below_alloc | apply pw_below_drewN | apply below_drew1 | refine below_set ?_ GE782.out) | exact HB.out)) hb); have n6_ := Aside0.mk (hbox); have n7_ := Aside0.mk ((by rw [hg]; exact (below_size (by repeat (first | (with_reducible first | exact HB.out | apply below_alloc | apply pw_below_drewN | apply below_drew1 | refine below_set ?_ GE782.out) | exact HB.out))) : w.heap.size ≤ gb803)); have n8_ := Aside0.mk ((by rw [hg]; exact (below_size (by repeat (first | (with_reducible first | exact HB.out | apply below_alloc | apply pw_below_drewN | apply below_drew1 | refine below_set ?_ GE782.out) | exact HB.out))) : w.heap.size ≤ gb803)); have n9_ := Aside0.mk ((by rw [hg]; exact Nat.ne_of_lt (blk_lt (g := gb782) (o := .cells #[.int .i64 a0_0, .int .i64 a0_1, .string a0_2, .slice A0_3 l0_3.length c0_3, .slice A0_4 l0_4.length c0_4] 36 (0, 0)) (by (with_reducible repeat (first | refine blk_drewN ?_ _ | refine blk_drew ?_ | refine blk_alloc ?_ _)); exact BK782.out)) : gb782 ≠ gb803)); have n10_ := Aside0.mk ((by rw [hg]; exact Nat.ne_of_gt (blk_lt (g := gb782) (o := .cells #[.int .i64 a0_0, .int .i64 a0_1, .string a0_2, .slice A0_3 l0_3.length c0_3, .slice A0_4 l0_4.length c0_4] 36 (0, 0)) (by (with_reducible repeat (first | refine blk_drewN ?_ _ | refine blk_drew ?_ | refine blk_alloc ?_ _)); exact BK782.out)) : gb803 ≠ gb782)); clear HO789; clear HO792; clear HO799; clear HO802; clear BK782; clear HB; have HO789 := n0_; have HO792 := n1_; have HO799 := n2_; have HO802 := n3_; have BK782 := n4_; have HB := n5_; have BK803 := n6_; have GW803 := n7_; have GE803 := n8_; have NB782_803 := n9_; have NB803_782 := n10_; clear n0_ n1_ n2_ n3_ n4_ n5_ n6_ n7_ n8_ n9_ n10_; clear hb hbox hg; have hnb21 := NB803_782.out; have hnc21 := NB782_803.out; have hcz22_0 : w20.cell? ⟨gb803, 0, none⟩ = some (.int .i64 0) := (blk_cell BK803.out 0).trans rfl; have hcz22_1 : w20.cell? ⟨gb803, 1, none⟩ = some (.int .i64 0) := (blk_cell BK803.out 1).trans rfl; have hcz22_2 : w20.cell? ⟨gb803, 2, none⟩ = some (.string (⟨#[]⟩ : ByteArray)) := (blk_cell BK803.out 2).trans rfl; have hcz22_3 : w20.cell? ⟨gb803, 3, none⟩ = some (.slice none 0 0) := (blk_cell BK803.out 3).trans rfl; have hcz22_4 : w20.cell? ⟨gb803, 4, none⟩ = some (.slice none 0 0) := (blk_cell BK803.out 4).trans rfl; have hfz22_0 := blk_frozen BK803.out 0; have hfz22_1 := blk_frozen BK803.out 1; have hfz22_2 := blk_frozen BK803.out 2; have hfz22_3 := blk_frozen BK803.out 3; have hfz22_4 := blk_frozen BK803.out 4; obtain ⟨Ao23, co23, eo23⟩ := Kd.R_slice HO799.out; subst eo23; obtain ⟨Ao24, co24, eo24⟩ := Kd.R_slice HO802.out; subst eo24) | ((with_reducible refine gate_callee (f := 46) rfl ?_); refine goesL_ (some 18) rfl rfl Try.func46 (by kernel_rfl) rfl #[.agg #[.int .i64 t794, .int .i64 t795, .string t796, .slice Ao23 t797.length co23, .slice Ao24 t800.length co24]] rfl (by (try simp only [List.map_toArray, List.map_cons, List.map_nil]); first | done | rfl | (simp only [List.length_drop, List.length_take]; rfl)) ?_; (with_reducible refine (impl_TreeOk.calls k t794 t795 t796 _ _ t797 _ _ t800 t804 _ ?side1 ?side2 ?side3 ?side4 A11.out).mono ?_); (case side1 => refine (Kd.R_reads' (e := 9) (base := w.heap.size) (ok := fun k_ => (True ∧ some k_ ≠ (.slice Ao15 t787.length co15 : Value).ownBlock)) (n := t797.length) (c := co23) ?_).2.2; exact (by (with_reducible repeat (first | apply Kd.R_alloc | apply Kd.R_drewN | apply Kd.R_drew)); exact (Kd.R_mono (Kd.R_far (p := ⟨gb803, 4, none⟩) (Kd.R_far (p := ⟨gb803, 3, none⟩) (Kd.R_far (p := ⟨gb803, 2, none⟩) (Kd.R_far (p := ⟨gb803, 1, none⟩) (Kd.R_far (p := ⟨gb803, 0, none⟩) (Kd.R_types HO799.out BK803.out (by decide)) (fun _ hk => hk.2) (.int .i64 t794)) (fun _ hk => hk.2) (.int .i64 t795)) (fun _ hk => hk.2) (.string t796)) (fun _ hk => hk.2) (.slice Ao23 t797.length co23)) (fun _ hk => hk.2) (.slice Ao24 t800.length co24)) (fun _ h_ => h_.1)))); (case side2 => exact (Kd.R_reads' HO799.out).2.1); (case side3 => refine (Kd.R_reads' (e := 25) (base := w.heap.size) (ok := fun k_ => (((some k_ ≠ (.slice Ao23 t797.length co23 : Value).ownBlock ∧ some k_ ≠ (.slice Ao15 t787.length co15 : Value).ownBlock) ∧ some k_ ≠ (.slice Ao16 t790.length co16 : Value).ownBlock) ∧ k_ ≠ gb803)) (n := t800.length) (c := co24) ?_).2.2; exact (by (with_reducible repeat (first | apply Kd.R_alloc | apply Kd.R_drewN | apply Kd.R_drew)); exact (Kd.R_mono (Kd.R_far (p := ⟨gb803, 4, none⟩) (Kd.R_far (p := ⟨gb803, 3, none⟩) (Kd.R_far (p := ⟨gb803, 2, none⟩) (Kd.R_far (p := ⟨gb803, 1, none⟩) (Kd.R_far (p := ⟨gb803, 0, none⟩) (Kd.R_mono HO802.out (fun k_ hk => (⟨hk, hk.2⟩ : _ ∧ k_ ≠ gb803))) (fun _ hk => hk.2) (.int .i64 t794)) (fun _ hk => hk.2) (.int .i64 t795)) (fun _ hk => hk.2) (.string t796)) (fun _ hk => hk.2) (.slice Ao23 t797.length co23)) (fun _ hk => hk.2) (.slice Ao24 t800.length co24)) (fun _ h_ => h_.1)))); (case side4 => exact (Kd.R_reads' HO802.out).2.1); rintro e w25 ⟨rfl, hb⟩; refine ⟨_, rfl, ?_⟩; have n0_ := Aside0.mk (Kd.R_below (by (with_reducible repeat (first | apply Kd.R_alloc | apply Kd.R_drewN | apply Kd.R_drew)); exact (Kd.R_mono (Kd.R_far (p := ⟨gb803, 4, none⟩) (Kd.R_far (p := ⟨gb803, 3, none⟩) (Kd.R_far (p := ⟨gb803, 2, none⟩) (Kd.R_far (p := ⟨gb803, 1, none⟩) (Kd.R_far (p := ⟨gb803, 0, none⟩) (Kd.R_types HO789.out BK803.out (by decide)) (fun _ hk => hk.2) (.int .i64 t794)) (fun _ hk => hk.2) (.int .i64 t795)) (fun _ hk => hk.2) (.string t796)) (fun _ hk => hk.2) (.slice Ao23 t797.length co23)) (fun _ hk => hk.2) (.slice Ao24 t800.length co24)) (fun _ h_ => h_.1))) hb); have n1_ := Aside0.mk (Kd.R_below (by (with_reducible repeat (first | apply Kd.R_alloc | apply Kd.R_drewN | apply Kd.R_drew)); exact (Kd.R_mono (Kd.R_far (p := ⟨gb803, 4, none⟩) (Kd.R_far (p := ⟨gb803, 3, none⟩) (Kd.R_far (p := ⟨gb803, 2, none⟩) (Kd.R_far (p := ⟨gb803, 1, none⟩) (Kd.R_far (p := ⟨gb803, 0, none⟩) (Kd.R_mono HO792.out (fun k_ hk => (⟨hk, hk.2⟩ : _ ∧ k_ ≠ gb803))) (fun _ hk => hk.2) (.int .i64 t794)) (fun _ hk => hk.2) (.int .i64 t795)) (fun _ hk => hk.2) (.string t796)) (fun _ hk => hk.2) (.slice Ao23 t797.length co23)) (fun _ hk => hk.2) (.slice Ao24 t800.length co24)) (fun _ h_ => h_.1))) hb); have n2_ := Aside0.mk (Kd.R_below (by (with_reducible repeat (first | apply Kd.R_alloc | apply Kd.R_drewN | apply Kd.R_drew)); exact (Kd.R_mono (Kd.R_far (p := ⟨gb803, 4, none⟩) (Kd.R_far (p := ⟨gb803, 3, none⟩) (Kd.R_far (p := ⟨gb803, 2, none⟩) (Kd.R_far (p := ⟨gb803, 1, none⟩) (Kd.R_far (p := ⟨gb803, 0, none⟩) (Kd.R_types HO799.out BK803.out (by decide)) (fun _ hk => hk.2) (.int .i64 t794)) (fun _ hk => hk.2) (.int .i64 t795)) (fun _ hk => hk.2) (.string t796)) (fun _ hk => hk.2) (.slice Ao23 t797.length co23)) (fun _ hk => hk.2) (.slice Ao24 t800.length co24)) (fun _ h_ => h_.1))) hb); have n3_ := Aside0.mk (Kd.R_below (by (with_reducible repeat (first | apply Kd.R_alloc | apply Kd.R_drewN | apply Kd.R_drew)); exact (Kd.R_mono (Kd.R_far (p := ⟨gb803, 4, none⟩) (Kd.R_far (p := ⟨gb803, 3, none⟩) (Kd.R_far (p := ⟨gb803, 2, none⟩) (Kd.R_far (p := ⟨gb803, 1, none⟩) (Kd.R_far (p := ⟨gb803, 0, none⟩) (Kd.R_mono HO802.out (fun k_ hk => (⟨hk, hk.2⟩ : _ ∧ k_ ≠ gb803))) (fun _ hk => hk.2) (.int .i64 t794)) (fun _ hk => hk.2) (.int .i64 t795)) (fun _ hk => hk.2) (.string t796)) (fun _ hk => hk.2) (.slice Ao23 t797.length co23)) (fun _ hk => hk.2) (.slice Ao24 t800.length co24)) (fun _ h_ => h_.1))) hb); have n4_ := Aside0.mk (blk_below (g := gb782) (o := .cells #[.int .i64 a0_0, .int .i64 a0_1, .string a0_2, .slice A0_3 l0_3.length c0_3, .slice A0_4 l0_4.length c0_4] 36 (0, 0)) (by (with_reducible repeat (first | refine blk_drewN ?_ _ | refine blk_drew ?_ | refine blk_alloc ?_ _)); refine blk_far ?_ NB782_803.out _; (with_reducible repeat (first | refine blk_drewN ?_ _ | refine blk_drew ?_ | refine blk_alloc ?_ _)); refine blk_far ?_ NB782_803.out _; (with_reducible repeat (first | refine blk_drewN ?_ _ | refine blk_drew ?_ | refine blk_alloc ?_ _)); refine blk_far ?_ NB782_803.out _; (with_reducible repeat (first | refine blk_drewN ?_ _ | refine blk_drew ?_ | refine blk_alloc ?_ _)); refine blk_far ?_ NB782_803.out _; (with_reducible repeat (first | refine blk_drewN ?_ _ | refine blk_drew ?_ | refine blk_alloc ?_ _)); refine blk_far ?_ NB782_803.out _; (with_reducible repeat (first | refine blk_drewN ?_ _ | refine blk_drew ?_ | refine blk_alloc ?_ _)); exact BK782.out) hb); have n5_ := Aside0.mk (blk_below (g := gb803) (o := .cells #[.int .i64 t794, .int .i64 t795, .string t796, .slice Ao23 t797.length co23, .slice Ao24 t800.length co24] 25 (0, 0)) (by (with_reducible repeat (first | refine blk_drewN ?_ _ | refine blk_drew ?_ | refine blk_alloc ?_ _)); refine blk_put (cs := #[.int .i64 t794, .int .i64 t795, .string t796, .slice Ao23 t797.length co23, .slice none 0 0]) ?_ 4 _ rfl; (with_reducible repeat (first | refine blk_drewN ?_ _ | refine blk_drew ?_ | refine blk_alloc ?_ _)); refine blk_put (cs := #[.int .i64 t794, .int .i64 t795, .string t796, .slice none 0 0, .slice none 0 0]) ?_ 3 _ rfl; (with_reducible repeat (first | refine blk_drewN ?_ _ | refine blk_drew ?_ | refine blk_alloc ?_ _)); refine blk_put (cs := #[.int .i64 t794, .int .i64 t795, .string (⟨#[]⟩ : ByteArray), .slice none 0 0, .slice none 0 0]) ?_ 2 _ rfl; (with_reducible repeat (first | refine blk_drewN ?_ _ | refine blk_drew ?_ | refine blk_alloc ?_ _)); refine blk_put (cs := #[.int .i64 t794, .int .i64 0, .string (⟨#[]⟩ : ByteArray), .slice none 0 0, .slice none 0 0]) ?_ 1 _ rfl; (with_reducible repeat (first | refine blk_drewN ?_ _ | refine blk_drew ?_ | refine blk_alloc ?_ _)); refine blk_put (cs := #[.int .i64 0, .int .i64 0, .string (⟨#[]⟩ : ByteArray), .slice none 0 0, .slice none 0 0]) ?_ 0 _ rfl; (with_reducible repeat (first | refine blk_drewN ?_ _ | refine blk_drew ?_ | refine blk_alloc ?_ _)); exact BK803.out) hb); have n6_ := Aside0.mk (below_step (by repeat (first | (with_reducible first | exact HB.out | apply below_alloc | apply pw_below_drewN | apply below_drew1 | refine below_set ?_ GE782.out | refine below_set ?_ GE803.out) | exact HB.out)) hb); clear HO789; clear HO792; clear HO799; clear HO802; clear BK782; clear BK803; clear HB; have HO789 := n0_; have HO792 := n1_; have HO799 := n2_; have HO802 := n3_; have BK782 := n4_; have BK803 := n5_; have HB := n6_; clear n0_ n1_ n2_ n3_ n4_ n5_ n6_; (try clear hb); (try clear hb2); (try clear hk); (try clear hi)))
    (try simp only [Act.put, List.setIfInBounds_toArray, List.set_cons_zero, List.set_cons_succ])
    have H := HC12.out
    clear HC12
    by_cases c26 : (t804 != t793) = true
    · rw [if_pos c26] at H
      have c26b0 : (t804 != t793) = true := c26
      (try (have c26b1 : decide (t804 = t793) = false := by simpa using c26))
      (try (have c26b2 : (t804 == t793) = false := by simpa using c26))
      (try (have c26b3 : ¬ (t804 = t793) := by simpa using c26))
      clear c26
      (first | rw [c26b0] | rw [c26b1] | rw [c26b2] | rw [c26b3] | (simp only [i64_w, i32_w]; rw [c26b0]) | skip)
      obtain rfl := Option.some.inj H
      go_wp2
      go_ret
      exact ⟨by first | rfl | (simp [errW_none, errW_some] <;> rfl) | (simp [*, errW_none, errW_some] <;> rfl), by repeat (first | (with_reducible first | exact HB.out | apply below_alloc | apply pw_below_drewN | apply below_drew1 | refine below_set ?_ GE782.out | refine below_set ?_ GE803.out) | exact HB.out)⟩
    · rw [if_neg c26] at H
      have c26b0 : (t804 != t793) = false := by simpa using c26
      (try (have c26b1 : decide (t804 = t793) = true := by simpa using c26))
      (try (have c26b2 : (t804 == t793) = true := by simpa using c26))
      clear c26
      (first | rw [c26b0] | rw [c26b1] | rw [c26b2] | rw [c26b3] | (simp only [i64_w, i32_w]; rw [c26b0]) | skip)
      replace H := Option.bind_eq_some_iff.mp H
      obtain ⟨⟨t805, t806, t807, t808, t811⟩, A270, H⟩ := H
      replace H : ((laws_eqNode.f k t794 t795 t796 t797 t800 t805 t806 t807 t808 t811).bind fun t814 => (if t814 = true then (some true) else (some false))) = some r := H
      have A27 := Aside0.mk A270
      clear A270
      replace H := Option.bind_eq_some_iff.mp H
      obtain ⟨t814, A280, H⟩ := H
      replace H : (if t814 = true then (some true) else (some false)) = some r := H
      have A28 := Aside0.mk A280
      clear A280
      have HC29 := Aside0.mk H
      clear H
      try go_wp2
      have n0_ := Aside0.mk (Kd.R_drew HO789.out)
      have n1_ := Aside0.mk (Kd.R_drew HO792.out)
      have n2_ := Aside0.mk (Kd.R_drew HO799.out)
      have n3_ := Aside0.mk (Kd.R_drew HO802.out)
      have n4_ := Aside0.mk (blk_drew BK782.out)
      have n5_ := Aside0.mk (blk_drew BK803.out)
      have n6_ := Aside0.mk (below_drew1 HB.out)
      clear HO789
      clear HO792
      clear HO799
      clear HO802
      clear BK782
      clear BK803
      clear HB
      have HO789 := n0_
      have HO792 := n1_
      have HO799 := n2_
      have HO802 := n3_
      have BK782 := n4_
      have BK803 := n5_
      have HB := n6_
      clear n0_ n1_ n2_ n3_ n4_ n5_ n6_
      refine start_ (n := 5) (S := fun w' => w'.cell? ⟨gb803, 0, none⟩ = some (.int .i64 t794) ∧ w'.cell? ⟨gb803, 1, none⟩ = some (.int .i64 t795) ∧ w'.cell? ⟨gb803, 2, none⟩ = some (.string t796) ∧ w'.cell? ⟨gb803, 3, none⟩ = some (.slice Ao23 t797.length co23) ∧ w'.cell? ⟨gb803, 4, none⟩ = some (.slice Ao24 t800.length co24) ∧ w'.cell? ⟨gb782, 0, none⟩ = some (.int .i64 a0_0) ∧ w'.cell? ⟨gb782, 1, none⟩ = some (.int .i64 a0_1) ∧ w'.cell? ⟨gb782, 2, none⟩ = some (.string a0_2) ∧ w'.cell? ⟨gb782, 3, none⟩ = some (.slice A0_3 l0_3.length c0_3) ∧ w'.cell? ⟨gb782, 4, none⟩ = some (.slice A0_4 l0_4.length c0_4)) (ds := []) #[false, false, false, false, false] (by kernel_rfl) rfl rfl ⟨(blk_cell BK803.out 0).trans rfl, (blk_cell BK803.out 1).trans rfl, (blk_cell BK803.out 2).trans rfl, (blk_cell BK803.out 3).trans rfl, (blk_cell BK803.out 4).trans rfl, (blk_cell BK782.out 0).trans rfl, (blk_cell BK782.out 1).trans rfl, (blk_cell BK782.out 2).trans rfl, (blk_cell BK782.out 3).trans rfl, (blk_cell BK782.out 4).trans rfl⟩ (fun hHeld => ?_)
      generalize w25.drew = w30 at HO789 HO792 HO799 HO802 BK782 BK803 HB hHeld ⊢
      refine take_ (i := 0) (N := some 22) (v := ?_) (a' := ?_) (bs_ 5 1) rfl rfl (by kernel_rfl) (fun _ _ _ h => h) (Or.inl ⟨by rfl, ?_⟩) hHeld ?_ ?_
      rotate_left
      · rintro w' ⟨s0, s1, s2, s3, s4, s5, s6, s7, s8, s9⟩
        go_simp
        (first | with_reducible rfl | rfl)
      rotate_left
      · simp only [Act.put, List.setIfInBounds_toArray, List.set_cons_zero, List.set_cons_succ, i64_w, i32_w]
        rfl
      refine take_ (i := 1) (N := some 23) (v := ?_) (a' := ?_) (bs_ 5 3) rfl rfl (by kernel_rfl) (fun _ _ _ h => h) (Or.inl ⟨by rfl, ?_⟩) hHeld ?_ ?_
      rotate_left
      · rintro w' ⟨s0, s1, s2, s3, s4, s5, s6, s7, s8, s9⟩
        go_simp
        (first | with_reducible rfl | rfl)
      rotate_left
      · simp only [Act.put, List.setIfInBounds_toArray, List.set_cons_zero, List.set_cons_succ, i64_w, i32_w]
        rfl
      refine one_ (i := 2) (N := some 24) (bs_ 5 7) rfl rfl (by kernel_rfl) (by decide) (fun K hK => ?_)
      refine goes_ Try.func30 (by kernel_rfl) rfl #[.agg #[.int .i64 a0_0, .int .i64 a0_1, .string a0_2, .slice A0_3 l0_3.length c0_3, .slice A0_4 l0_4.length c0_4]] (by rfl) rfl rfl (by (try simp only [List.map_toArray, List.map_cons, List.map_nil]); first | done | rfl | (simp only [List.length_drop, List.length_take]; rfl)) ?_
      with_reducible refine (laws_toNode.calls k a0_0 a0_1 a0_2 _ _ l0_3 _ _ l0_4 t805 t806 t807 t808 t811 _ ?side1 ?side2 ?side3 ?side4 A27.out).mono ?_
      (case side1 => repeat (first | exact (Kd.C_below HR0_3.out HB.out) | (with_reducible refine Kd.C_alloc ?_ _) | (with_reducible refine Kd.C_drewN ?_ _) | (with_reducible refine Kd.C_drew ?_)))
      (case side2 => exact HC0_3.out)
      (case side3 => repeat (first | exact (Kd.C_below HR0_4.out HB.out) | (with_reducible refine Kd.C_alloc ?_ _) | (with_reducible refine Kd.C_drewN ?_ _) | (with_reducible refine Kd.C_drew ?_)))
      (case side4 => exact HC0_4.out)
      rintro e w31 ⟨v809, v812, rfl, ho0, ho1, hb⟩
      refine ⟨_, rfl, ?_⟩
      have n0_ := Aside0.mk (Kd.R_elder' (by (with_reducible repeat (first | apply Kd.R_alloc | apply Kd.R_drewN | apply Kd.R_drew)); exact HO789.out) (Kd.R_base ho0) hb)
      have n1_ := Aside0.mk (Kd.R_mono (Kd.R_told (Kd.R_told (Kd.R_old (by (with_reducible repeat (first | apply Kd.R_alloc | apply Kd.R_drewN | apply Kd.R_drew)); exact HO792.out) hb) (Kd.R_base ho0)) (Kd.R_base ho1)) (fun _ h_ => h_.1))
      have n2_ := Aside0.mk (Kd.R_elder' (by (with_reducible repeat (first | apply Kd.R_alloc | apply Kd.R_drewN | apply Kd.R_drew)); exact HO799.out) (Kd.R_base ho0) hb)
      have n3_ := Aside0.mk (Kd.R_mono (Kd.R_told (Kd.R_told (Kd.R_old (by (with_reducible repeat (first | apply Kd.R_alloc | apply Kd.R_drewN | apply Kd.R_drew)); exact HO802.out) hb) (Kd.R_base ho0)) (Kd.R_base ho1)) (fun _ h_ => h_.1))
      have n4_ := Aside0.mk (Kd.R_lower (Kd.R_new' (Kd.R_new' ho0 (Kd.R_lt (by (with_reducible repeat (first | apply Kd.R_alloc | apply Kd.R_drewN | apply Kd.R_drew)); exact HO789.out))) (Kd.R_lt (by (with_reducible repeat (first | apply Kd.R_alloc | apply Kd.R_drewN | apply Kd.R_drew)); exact HO799.out))) (below_size (by repeat (first | (with_reducible first | exact HB.out | apply below_alloc | apply pw_below_drewN | apply below_drew1 | refine below_set ?_ GE782.out | refine below_set ?_ GE803.out) | exact HB.out))))
      have n5_ := Aside0.mk (Kd.R_lower (Kd.R_newB (Kd.R_new' (Kd.R_new' (Kd.R_new' (Kd.R_new' ho1 (Kd.R_lt (by (with_reducible repeat (first | apply Kd.R_alloc | apply Kd.R_drewN | apply Kd.R_drew)); exact HO789.out))) (Kd.R_lt (by (with_reducible repeat (first | apply Kd.R_alloc | apply Kd.R_drewN | apply Kd.R_drew)); exact HO792.out))) (Kd.R_lt (by (with_reducible repeat (first | apply Kd.R_alloc | apply Kd.R_drewN | apply Kd.R_drew)); exact HO799.out))) (Kd.R_lt (by (with_reducible repeat (first | apply Kd.R_alloc | apply Kd.R_drewN | apply Kd.R_drew)); exact HO802.out))) (g := gb803) (o := .cells #[.int .i64 t794, .int .i64 t795, .string t796, .slice Ao23 t797.length co23, .slice Ao24 t800.length co24] 25 (0, 0)) (by (with_reducible repeat (first | refine blk_drewN ?_ _ | refine blk_drew ?_ | refine blk_alloc ?_ _)); exact BK803.out)) (below_size (by repeat (first | (with_reducible first | exact HB.out | apply below_alloc | apply pw_below_drewN | apply below_drew1 | refine below_set ?_ GE782.out | refine below_set ?_ GE803.out) | exact HB.out))))
      have n6_ := Aside0.mk (blk_below (g := gb782) (o := .cells #[.int .i64 a0_0, .int .i64 a0_1, .string a0_2, .slice A0_3 l0_3.length c0_3, .slice A0_4 l0_4.length c0_4] 36 (0, 0)) (by (with_reducible repeat (first | refine blk_drewN ?_ _ | refine blk_drew ?_ | refine blk_alloc ?_ _)); exact BK782.out) hb)
      have n7_ := Aside0.mk (blk_below (g := gb803) (o := .cells #[.int .i64 t794, .int .i64 t795, .string t796, .slice Ao23 t797.length co23, .slice Ao24 t800.length co24] 25 (0, 0)) (by (with_reducible repeat (first | refine blk_drewN ?_ _ | refine blk_drew ?_ | refine blk_alloc ?_ _)); exact BK803.out) hb)
      have n8_ := Aside0.mk (below_step (by repeat (first | (with_reducible first | exact HB.out | apply below_alloc | apply pw_below_drewN | apply below_drew1 | refine below_set ?_ GE782.out | refine below_set ?_ GE803.out) | exact HB.out)) hb)
      clear HO789
      clear HO792
      clear HO799
      clear HO802
      clear BK782
      clear BK803
      clear HB
      have HO789 := n0_
      have HO792 := n1_
      have HO799 := n2_
      have HO802 := n3_
      have HO810 := n4_
      have HO813 := n5_
      have BK782 := n6_
      have BK803 := n7_
      have HB := n8_
      clear n0_ n1_ n2_ n3_ n4_ n5_ n6_ n7_ n8_
      (try clear hb)
      (try clear hb2)
      (try clear hk)
      (try clear hi)
      (try clear ho0)
      (try clear ho1)
      obtain ⟨Ao32, co32, eo32⟩ := Kd.R_slice HO810.out
      (first | subst eo32 | (injection eo32 with f1_ f2_ f3_; have f4_ := f1_.symm; have f5_ := f3_.symm; clear f1_ f2_ f3_; subst f4_; subst f5_))
      obtain ⟨Ao33, co33, eo33⟩ := Kd.R_slice HO813.out
      (first | subst eo33 | (injection eo33 with f1_ f2_ f3_; have f4_ := f1_.symm; have f5_ := f3_.symm; clear f1_ f2_ f3_; subst f4_; subst f5_))
      refine hK.out _ _ ⟨(blk_cell BK803.out 0).trans rfl, (blk_cell BK803.out 1).trans rfl, (blk_cell BK803.out 2).trans rfl, (blk_cell BK803.out 3).trans rfl, (blk_cell BK803.out 4).trans rfl, (blk_cell BK782.out 0).trans rfl, (blk_cell BK782.out 1).trans rfl, (blk_cell BK782.out 2).trans rfl, (blk_cell BK782.out 3).trans rfl, (blk_cell BK782.out 4).trans rfl⟩ (fun hHeld => ?_)
      clear hK K
      refine norm_ (a' := ?_) ?_ ?_
      rotate_left
      · show Act.put _ (some 24) _ = _
        simp only [Act.put, List.setIfInBounds_toArray, List.set_cons_zero, List.set_cons_succ, i64_w, i32_w]
        rfl
      refine one_ (i := 3) (N := some 25) (bs_ 5 15) rfl rfl (by kernel_rfl) (by decide) (fun K hK => ?_)
      refine goes_ Try.func21 (by kernel_rfl) rfl #[.agg #[.int .i64 t794, .int .i64 t795, .string t796, .slice Ao23 t797.length co23, .slice Ao24 t800.length co24], .agg #[.int .i64 t805, .int .i64 t806, .string t807, .slice Ao32 t808.length co32, .slice Ao33 t811.length co33]] (by rfl) rfl rfl (by (try simp only [List.map_toArray, List.map_cons, List.map_nil]); first | done | rfl | (simp only [List.length_drop, List.length_take]; rfl)) ?_
      with_reducible refine (laws_eqNode.calls k t794 t795 t796 _ _ t797 _ _ t800 t805 t806 t807 _ _ t808 _ _ t811 t814 _ ?side1 ?side2 ?side3 ?side4 ?side5 ?side6 ?side7 ?side8 A28.out).mono ?_
      (case side1 => repeat (first | exact (Kd.R_reads' HO799.out).2.2 | (with_reducible refine Kd.C_alloc ?_ _) | (with_reducible refine Kd.C_drewN ?_ _) | (with_reducible refine Kd.C_drew ?_)))
      (case side2 => exact (Kd.R_reads' HO799.out).2.1)
      (case side3 => repeat (first | exact (Kd.R_reads' HO802.out).2.2 | (with_reducible refine Kd.C_alloc ?_ _) | (with_reducible refine Kd.C_drewN ?_ _) | (with_reducible refine Kd.C_drew ?_)))
      (case side4 => exact (Kd.R_reads' HO802.out).2.1)
      (case side5 => repeat (first | exact (Kd.R_reads' HO810.out).2.2 | (with_reducible refine Kd.C_alloc ?_ _) | (with_reducible refine Kd.C_drewN ?_ _) | (with_reducible refine Kd.C_drew ?_)))
      (case side6 => exact (Kd.R_reads' HO810.out).2.1)
      (case side7 => repeat (first | exact (Kd.R_reads' HO813.out).2.2 | (with_reducible refine Kd.C_alloc ?_ _) | (with_reducible refine Kd.C_drewN ?_ _) | (with_reducible refine Kd.C_drew ?_)))
      (case side8 => exact (Kd.R_reads' HO813.out).2.1)
      rintro e w34 ⟨rfl, hb⟩
      refine ⟨_, rfl, ?_⟩
      have n0_ := Aside0.mk (Kd.R_below (by (with_reducible repeat (first | apply Kd.R_alloc | apply Kd.R_drewN | apply Kd.R_drew)); exact HO789.out) hb)
      have n1_ := Aside0.mk (Kd.R_below (by (with_reducible repeat (first | apply Kd.R_alloc | apply Kd.R_drewN | apply Kd.R_drew)); exact HO792.out) hb)
      have n2_ := Aside0.mk (Kd.R_below (by (with_reducible repeat (first | apply Kd.R_alloc | apply Kd.R_drewN | apply Kd.R_drew)); exact HO799.out) hb)
      have n3_ := Aside0.mk (Kd.R_below (by (with_reducible repeat (first | apply Kd.R_alloc | apply Kd.R_drewN | apply Kd.R_drew)); exact HO802.out) hb)
      have n4_ := Aside0.mk (Kd.R_below (by (with_reducible repeat (first | apply Kd.R_alloc | apply Kd.R_drewN | apply Kd.R_drew)); exact HO810.out) hb)
      have n5_ := Aside0.mk (Kd.R_below (by (with_reducible repeat (first | apply Kd.R_alloc | apply Kd.R_drewN | apply Kd.R_drew)); exact HO813.out) hb)
      have n6_ := Aside0.mk (blk_below (g := gb782) (o := .cells #[.int .i64 a0_0, .int .i64 a0_1, .string a0_2, .slice A0_3 l0_3.length c0_3, .slice A0_4 l0_4.length c0_4] 36 (0, 0)) (by (with_reducible repeat (first | refine blk_drewN ?_ _ | refine blk_drew ?_ | refine blk_alloc ?_ _)); exact BK782.out) hb)
      have n7_ := Aside0.mk (blk_below (g := gb803) (o := .cells #[.int .i64 t794, .int .i64 t795, .string t796, .slice Ao23 t797.length co23, .slice Ao24 t800.length co24] 25 (0, 0)) (by (with_reducible repeat (first | refine blk_drewN ?_ _ | refine blk_drew ?_ | refine blk_alloc ?_ _)); exact BK803.out) hb)
      have n8_ := Aside0.mk (below_step (by repeat (first | (with_reducible first | exact HB.out | apply below_alloc | apply pw_below_drewN | apply below_drew1 | refine below_set ?_ GE782.out | refine below_set ?_ GE803.out) | exact HB.out)) hb)
      clear HO789
      clear HO792
      clear HO799
      clear HO802
      clear HO810
      clear HO813
      clear BK782
      clear BK803
      clear HB
      have HO789 := n0_
      have HO792 := n1_
      have HO799 := n2_
      have HO802 := n3_
      have HO810 := n4_
      have HO813 := n5_
      have BK782 := n6_
      have BK803 := n7_
      have HB := n8_
      clear n0_ n1_ n2_ n3_ n4_ n5_ n6_ n7_ n8_
      (try clear hb)
      (try clear hb2)
      (try clear hk)
      (try clear hi)
      refine hK.out _ _ ⟨(blk_cell BK803.out 0).trans rfl, (blk_cell BK803.out 1).trans rfl, (blk_cell BK803.out 2).trans rfl, (blk_cell BK803.out 3).trans rfl, (blk_cell BK803.out 4).trans rfl, (blk_cell BK782.out 0).trans rfl, (blk_cell BK782.out 1).trans rfl, (blk_cell BK782.out 2).trans rfl, (blk_cell BK782.out 3).trans rfl, (blk_cell BK782.out 4).trans rfl⟩ (fun hHeld => ?_)
      clear hK K
      refine norm_ (a' := ?_) ?_ ?_
      rotate_left
      · show Act.put _ (some 25) _ = _
        simp only [Act.put, List.setIfInBounds_toArray, List.set_cons_zero, List.set_cons_succ, i64_w, i32_w]
        rfl
      refine pure_ (i := 4) (N := some 26) (v := _) (a' := _) (bs_ 5 31) rfl rfl (by kernel_rfl) (fun _ _ _ h => h) (Or.inl ⟨by rfl, by intro w'; go_simp; first | with_reducible rfl | rfl⟩) (by simp only [Act.put, List.setIfInBounds_toArray, List.set_cons_zero, List.set_cons_succ, i64_w, i32_w]; rfl) ?_
      refine done_ (by kernel_rfl) ?_
      go_upto_if 26 with (fail)
      try clear hHeld
      have H := HC29.out
      clear HC29
      by_cases c35 : t814 = true
      · subst c35
        have H1 : (some true) = some r := by rw [if_pos rfl] at H; exact H
        clear H
        have H := H1
        clear H1
        obtain rfl := Option.some.inj H
        go_wp2
        go_ret
        exact ⟨by first | rfl | (simp [errW_none, errW_some] <;> rfl) | (simp [*, errW_none, errW_some] <;> rfl), by repeat (first | (with_reducible first | exact HB.out | apply below_alloc | apply pw_below_drewN | apply below_drew1 | refine below_set ?_ GE782.out | refine below_set ?_ GE803.out) | exact HB.out)⟩
      · replace c35 := Bool.eq_false_iff.mpr c35
        subst c35
        have H1 : (some false) = some r := by rw [if_neg (show ¬ (false = true) by decide)] at H; exact H
        clear H
        have H := H1
        clear H1
        obtain rfl := Option.some.inj H
        go_wp2
        go_ret
        exact ⟨by first | rfl | (simp [errW_none, errW_some] <;> rfl) | (simp [*, errW_none, errW_some] <;> rfl), by repeat (first | (with_reducible first | exact HB.out | apply below_alloc | apply pw_below_drewN | apply below_drew1 | refine below_set ?_ GE782.out | refine below_set ?_ GE803.out) | exact HB.out)⟩

end Go.Proofs.Ytnbnpgjgibcmpaa.P
