-- Made by drive.py (a program of this session) over the kit's print; not written line by line by a hand.
import Derived.Test.YtjkanclhlnojhaaP0
import Derived.Test.YtjkanclhlnojhaaP_impl_OrderOk
import Derived.Test.YtjkanclhlnojhaaP_laws_eqNote
import Derived.Test.YtjkanclhlnojhaaP_laws_szNote
import Derived.Test.YtjkanclhlnojhaaP_spec_OrderOk
namespace Go.Proofs.Ytjkanclhlnojhaa.P
open Go.RowKit Go.Proofs.YtjkanclhlnojhaaW.PrintWords Go.Proofs.YtjkanclhlnojhaaW.PrintLast Go.Proofs.YtjkanclhlnojhaaW.PrintMore
attribute [local go_sem] max2_int min2_int max_two min_two max_three min_three max_four min_four   -- for this text's walks alone
set_option linter.unusedVariables false
set_option linter.unusedSimpArgs false

/-! ### laws_FnExactOrderOk: function 19 -/
def laws_FnExactOrderOk.f (k : Nat) (a0_0 : ByteArray) (a0_1 : ByteArray) (a0_2 : Int) (a0_3 : Int) (l0_4 : List (S32)) (a0_5 : Int) (a0_6 : Int) (a0_7 : Int) (a0_8 : Int) (l0_9 : List (S109)) : Option (Bool) := (laws_szOrder.f k a0_0 a0_1 a0_2 a0_3 l0_4 a0_5 a0_6 a0_7 a0_8 l0_9 1048576).bind fun t1153 => (if t1153 < 0 then (some true) else ((laws_toOrder.f k a0_0 a0_1 a0_2 a0_3 l0_4 a0_5 a0_6 a0_7 a0_8 l0_9).bind fun bt1154 => ((spec_OrderOk.f k bt1154.1 bt1154.2.1 bt1154.2.2.1 bt1154.2.2.2.1 bt1154.2.2.2.2.1 bt1154.2.2.2.2.2.1 bt1154.2.2.2.2.2.2.1 bt1154.2.2.2.2.2.2.2.1 bt1154.2.2.2.2.2.2.2.2.1 bt1154.2.2.2.2.2.2.2.2.2).bind fun t1168 => ((laws_toOrder.f k a0_0 a0_1 a0_2 a0_3 l0_4 a0_5 a0_6 a0_7 a0_8 l0_9).bind fun bt1169 => ((impl_OrderOk.f k bt1169.1 bt1169.2.1 bt1169.2.2.1 bt1169.2.2.2.1 bt1169.2.2.2.2.1 bt1169.2.2.2.2.2.1 bt1169.2.2.2.2.2.2.1 bt1169.2.2.2.2.2.2.2.1 bt1169.2.2.2.2.2.2.2.2.1 bt1169.2.2.2.2.2.2.2.2.2).bind fun t1184 => (if (t1184 != t1168) = true then (some false) else ((laws_toOrder.f k a0_0 a0_1 a0_2 a0_3 l0_4 a0_5 a0_6 a0_7 a0_8 l0_9).bind fun bt1185 => ((laws_eqOrder.f k bt1169.1 bt1169.2.1 bt1169.2.2.1 bt1169.2.2.2.1 bt1169.2.2.2.2.1 bt1169.2.2.2.2.2.1 bt1169.2.2.2.2.2.2.1 bt1169.2.2.2.2.2.2.2.1 bt1169.2.2.2.2.2.2.2.2.1 bt1169.2.2.2.2.2.2.2.2.2 bt1185.1 bt1185.2.1 bt1185.2.2.1 bt1185.2.2.2.1 bt1185.2.2.2.2.1 bt1185.2.2.2.2.2.1 bt1185.2.2.2.2.2.2.1 bt1185.2.2.2.2.2.2.2.1 bt1185.2.2.2.2.2.2.2.2.1 bt1185.2.2.2.2.2.2.2.2.2).bind fun t1199 => (if t1199 = true then (some true) else (some false))))))))))
theorem laws_FnExactOrderOk.mono : ∀ a0 a1 a2 a3 a4 a5 a6 a7 a8 a9 k, LeO (laws_FnExactOrderOk.f k a0 a1 a2 a3 a4 a5 a6 a7 a8 a9) (laws_FnExactOrderOk.f (k + 1) a0 a1 a2 a3 a4 a5 a6 a7 a8 a9) := by
  intro a0 a1 a2 a3 a4 a5 a6 a7 a8 a9 k
  unfold laws_FnExactOrderOk.f
  repeat' first
      | (with_reducible exact impl_OrderOk.mono _ _ _ _ _ _ _ _ _ _ _)
      | (with_reducible exact laws_eqOrder.mono _ _ _ _ _ _ _ _ _ _ _ _ _ _ _ _ _ _ _ _ _)
      | (with_reducible exact laws_szOrder.mono _ _ _ _ _ _ _ _ _ _ _ _)
      | (with_reducible exact laws_toOrder.mono _ _ _ _ _ _ _ _ _ _ _)
      | (with_reducible exact spec_OrderOk.mono _ _ _ _ _ _ _ _ _ _ _)
      | (with_reducible exact LeO.refl _)
      | (with_reducible exact LeO.none _)
      | (with_reducible refine LeO.ite ?_ ?_)
      | (with_reducible refine LeO.bind ?_ (fun _ => ?_))
      | exact impl_OrderOk.mono _ _ _ _ _ _ _ _ _ _ _
      | exact laws_eqOrder.mono _ _ _ _ _ _ _ _ _ _ _ _ _ _ _ _ _ _ _ _ _
      | exact laws_szOrder.mono _ _ _ _ _ _ _ _ _ _ _ _
      | exact laws_toOrder.mono _ _ _ _ _ _ _ _ _ _ _
      | exact spec_OrderOk.mono _ _ _ _ _ _ _ _ _ _ _
      | exact LeO.none _
      | refine LeO.ite ?_ ?_
      | refine LeO.bind ?_ (fun _ => ?_)
set_option maxHeartbeats 8000000 in
set_option maxRecDepth 100000 in
theorem laws_FnExactOrderOk.calls (k : Nat) (a0_0 : ByteArray) (a0_1 : ByteArray) (a0_2 : Int) (a0_3 : Int) (A0_4 : Option Addr) (c0_4 : Nat) (l0_4 : List (S32)) (a0_5 : Int) (a0_6 : Int) (a0_7 : Int) (a0_8 : Int) (A0_9 : Option Addr) (c0_9 : Nat) (l0_9 : List (S109)) (r : Bool) (w : World) (hr0_4 : Kd.C k32 w A0_4 l0_4.length l0_4) (hc0_4 : l0_4.length ≤ c0_4) (hr0_9 : Kd.C k109 w A0_9 l0_9.length l0_9) (hc0_9 : l0_9.length ≤ c0_9) (h : laws_FnExactOrderOk.f k a0_0 a0_1 a0_2 a0_3 l0_4 a0_5 a0_6 a0_7 a0_8 l0_9 = some r) :
    Calls Try.prog 19 #[.agg #[.string a0_0, .string a0_1, .int .i64 a0_2, .int .i64 a0_3, .slice A0_4 l0_4.length c0_4, .int .i64 a0_5, .int .i64 a0_6, .int .i64 a0_7, .int .i64 a0_8, .slice A0_9 l0_9.length c0_9]] w fun e w' => e = .returned (.bool r) ∧ Below w.heap.size w w' := by
  have hu60 := Try.underlying60
  have hu65 := Try.underlying65
  have HR0_4 := Aside0.mk hr0_4
  have HC0_4 := Aside0.mk hc0_4
  clear hr0_4 hc0_4
  have HR0_9 := Aside0.mk hr0_9
  have HC0_9 := Aside0.mk hc0_9
  clear hr0_9 hc0_9
  have HB := Aside0.mk (Below.refl w.heap.size w)
  have H : ((laws_szOrder.f k a0_0 a0_1 a0_2 a0_3 l0_4 a0_5 a0_6 a0_7 a0_8 l0_9 1048576).bind fun t1153 => (if t1153 < 0 then (some true) else ((laws_toOrder.f k a0_0 a0_1 a0_2 a0_3 l0_4 a0_5 a0_6 a0_7 a0_8 l0_9).bind fun bt1154 => ((spec_OrderOk.f k bt1154.1 bt1154.2.1 bt1154.2.2.1 bt1154.2.2.2.1 bt1154.2.2.2.2.1 bt1154.2.2.2.2.2.1 bt1154.2.2.2.2.2.2.1 bt1154.2.2.2.2.2.2.2.1 bt1154.2.2.2.2.2.2.2.2.1 bt1154.2.2.2.2.2.2.2.2.2).bind fun t1168 => ((laws_toOrder.f k a0_0 a0_1 a0_2 a0_3 l0_4 a0_5 a0_6 a0_7 a0_8 l0_9).bind fun bt1169 => ((impl_OrderOk.f k bt1169.1 bt1169.2.1 bt1169.2.2.1 bt1169.2.2.2.1 bt1169.2.2.2.2.1 bt1169.2.2.2.2.2.1 bt1169.2.2.2.2.2.2.1 bt1169.2.2.2.2.2.2.2.1 bt1169.2.2.2.2.2.2.2.2.1 bt1169.2.2.2.2.2.2.2.2.2).bind fun t1184 => (if (t1184 != t1168) = true then (some false) else ((laws_toOrder.f k a0_0 a0_1 a0_2 a0_3 l0_4 a0_5 a0_6 a0_7 a0_8 l0_9).bind fun bt1185 => ((laws_eqOrder.f k bt1169.1 bt1169.2.1 bt1169.2.2.1 bt1169.2.2.2.1 bt1169.2.2.2.2.1 bt1169.2.2.2.2.2.1 bt1169.2.2.2.2.2.2.1 bt1169.2.2.2.2.2.2.2.1 bt1169.2.2.2.2.2.2.2.2.1 bt1169.2.2.2.2.2.2.2.2.2 bt1185.1 bt1185.2.1 bt1185.2.2.1 bt1185.2.2.2.1 bt1185.2.2.2.2.1 bt1185.2.2.2.2.2.1 bt1185.2.2.2.2.2.2.1 bt1185.2.2.2.2.2.2.2.1 bt1185.2.2.2.2.2.2.2.2.1 bt1185.2.2.2.2.2.2.2.2.2).bind fun t1199 => (if t1199 = true then (some true) else (some false))))))))))) = some r := h
  clear h
  replace H := Option.bind_eq_some_iff.mp H
  obtain ⟨t1153, A20, H⟩ := H
  replace H : (if t1153 < 0 then (some true) else ((laws_toOrder.f k a0_0 a0_1 a0_2 a0_3 l0_4 a0_5 a0_6 a0_7 a0_8 l0_9).bind fun bt1154 => ((spec_OrderOk.f k bt1154.1 bt1154.2.1 bt1154.2.2.1 bt1154.2.2.2.1 bt1154.2.2.2.2.1 bt1154.2.2.2.2.2.1 bt1154.2.2.2.2.2.2.1 bt1154.2.2.2.2.2.2.2.1 bt1154.2.2.2.2.2.2.2.2.1 bt1154.2.2.2.2.2.2.2.2.2).bind fun t1168 => ((laws_toOrder.f k a0_0 a0_1 a0_2 a0_3 l0_4 a0_5 a0_6 a0_7 a0_8 l0_9).bind fun bt1169 => ((impl_OrderOk.f k bt1169.1 bt1169.2.1 bt1169.2.2.1 bt1169.2.2.2.1 bt1169.2.2.2.2.1 bt1169.2.2.2.2.2.1 bt1169.2.2.2.2.2.2.1 bt1169.2.2.2.2.2.2.2.1 bt1169.2.2.2.2.2.2.2.2.1 bt1169.2.2.2.2.2.2.2.2.2).bind fun t1184 => (if (t1184 != t1168) = true then (some false) else ((laws_toOrder.f k a0_0 a0_1 a0_2 a0_3 l0_4 a0_5 a0_6 a0_7 a0_8 l0_9).bind fun bt1185 => ((laws_eqOrder.f k bt1169.1 bt1169.2.1 bt1169.2.2.1 bt1169.2.2.2.1 bt1169.2.2.2.2.1 bt1169.2.2.2.2.2.1 bt1169.2.2.2.2.2.2.1 bt1169.2.2.2.2.2.2.2.1 bt1169.2.2.2.2.2.2.2.2.1 bt1169.2.2.2.2.2.2.2.2.2 bt1185.1 bt1185.2.1 bt1185.2.2.1 bt1185.2.2.2.1 bt1185.2.2.2.2.1 bt1185.2.2.2.2.2.1 bt1185.2.2.2.2.2.2.1 bt1185.2.2.2.2.2.2.2.1 bt1185.2.2.2.2.2.2.2.2.1 bt1185.2.2.2.2.2.2.2.2.2).bind fun t1199 => (if t1199 = true then (some true) else (some false)))))))))) = some r := H
  have A2 := Aside0.mk A20
  clear A20
  have HC3 := Aside0.mk H
  clear H
  go_enter Try.func19, Try.ntmps19
  go_upto_if 11 with (first | ((with_reducible refine gate_dst (N := 1) rfl ?_); refine box_event ?hg (N := 1) ?hd (cs := #[.string a0_0, .string a0_1, .int .i64 a0_2, .int .i64 a0_3, .slice A0_4 l0_4.length c0_4, .int .i64 a0_5, .int .i64 a0_6, .int .i64 a0_7, .int .i64 a0_8, .slice A0_9 l0_9.length c0_9]) (t := 60) ?hr ?_; (case hd => rfl); (case hg => rfl); (case hr => first | (go_simp; done) | (go_simp; rfl)); intro gb1152 hg w4 hbox hb; have n0_ := Aside0.mk (below_step (by repeat (first | (with_reducible first | exact HB.out | apply below_alloc | apply pw_below_drewN | apply below_drew1) | exact HB.out)) hb); have n1_ := Aside0.mk (hbox); have n2_ := Aside0.mk ((by rw [hg]; exact (below_size (by repeat (first | (with_reducible first | exact HB.out | apply below_alloc | apply pw_below_drewN | apply below_drew1) | exact HB.out))) : w.heap.size ≤ gb1152)); have n3_ := Aside0.mk ((by rw [hg]; exact (below_size (by repeat (first | (with_reducible first | exact HB.out | apply below_alloc | apply pw_below_drewN | apply below_drew1) | exact HB.out))) : w.heap.size ≤ gb1152)); clear HB; have HB := n0_; have BK1152 := n1_; have GW1152 := n2_; have GE1152 := n3_; clear n0_ n1_ n2_ n3_; clear hb hbox hg; have hcz5_0 : w4.cell? ⟨gb1152, 0, none⟩ = some (.string a0_0) := (blk_cell BK1152.out 0).trans rfl; have hcz5_1 : w4.cell? ⟨gb1152, 1, none⟩ = some (.string a0_1) := (blk_cell BK1152.out 1).trans rfl; have hcz5_2 : w4.cell? ⟨gb1152, 2, none⟩ = some (.int .i64 a0_2) := (blk_cell BK1152.out 2).trans rfl; have hcz5_3 : w4.cell? ⟨gb1152, 3, none⟩ = some (.int .i64 a0_3) := (blk_cell BK1152.out 3).trans rfl; have hcz5_4 : w4.cell? ⟨gb1152, 4, none⟩ = some (.slice A0_4 l0_4.length c0_4) := (blk_cell BK1152.out 4).trans rfl; have hcz5_5 : w4.cell? ⟨gb1152, 5, none⟩ = some (.int .i64 a0_5) := (blk_cell BK1152.out 5).trans rfl; have hcz5_6 : w4.cell? ⟨gb1152, 6, none⟩ = some (.int .i64 a0_6) := (blk_cell BK1152.out 6).trans rfl; have hcz5_7 : w4.cell? ⟨gb1152, 7, none⟩ = some (.int .i64 a0_7) := (blk_cell BK1152.out 7).trans rfl; have hcz5_8 : w4.cell? ⟨gb1152, 8, none⟩ = some (.int .i64 a0_8) := (blk_cell BK1152.out 8).trans rfl; have hcz5_9 : w4.cell? ⟨gb1152, 9, none⟩ = some (.slice A0_9 l0_9.length c0_9) := (blk_cell BK1152.out 9).trans rfl; have hfz5_0 := blk_frozen BK1152.out 0; have hfz5_1 := blk_frozen BK1152.out 1; have hfz5_2 := blk_frozen BK1152.out 2; have hfz5_3 := blk_frozen BK1152.out 3; have hfz5_4 := blk_frozen BK1152.out 4; have hfz5_5 := blk_frozen BK1152.out 5; have hfz5_6 := blk_frozen BK1152.out 6; have hfz5_7 := blk_frozen BK1152.out 7; have hfz5_8 := blk_frozen BK1152.out 8; have hfz5_9 := blk_frozen BK1152.out 9) | ((with_reducible refine gate_callee (f := 59) rfl ?_); refine goesL_ (some 9) rfl rfl Try.func59 (by kernel_rfl) rfl #[.agg #[.string a0_0, .string a0_1, .int .i64 a0_2, .int .i64 a0_3, .slice A0_4 l0_4.length c0_4, .int .i64 a0_5, .int .i64 a0_6, .int .i64 a0_7, .int .i64 a0_8, .slice A0_9 l0_9.length c0_9], .int .i64 1048576] rfl (by (try simp only [List.map_toArray, List.map_cons, List.map_nil]); first | done | rfl | (simp only [List.length_drop, List.length_take]; rfl)) ?_; (with_reducible refine (laws_szOrder.calls k a0_0 a0_1 a0_2 a0_3 _ _ l0_4 a0_5 a0_6 a0_7 a0_8 _ _ l0_9 1048576 t1153 _ ?side1 ?side2 ?side3 ?side4 A2.out).mono ?_); (case side1 => repeat (first | exact (Kd.C_below HR0_4.out HB.out) | (with_reducible refine Kd.C_alloc ?_ _) | (with_reducible refine Kd.C_drewN ?_ _) | (with_reducible refine Kd.C_drew ?_))); (case side2 => exact HC0_4.out); (case side3 => repeat (first | exact (Kd.C_below HR0_9.out HB.out) | (with_reducible refine Kd.C_alloc ?_ _) | (with_reducible refine Kd.C_drewN ?_ _) | (with_reducible refine Kd.C_drew ?_))); (case side4 => exact HC0_9.out); rintro e w6 ⟨rfl, hb⟩; refine ⟨_, rfl, ?_⟩; have n0_ := Aside0.mk (blk_below (g := gb1152) (o := .cells #[.string a0_0, .string a0_1, .int .i64 a0_2, .int .i64 a0_3, .slice A0_4 l0_4.length c0_4, .int .i64 a0_5, .int .i64 a0_6, .int .i64 a0_7, .int .i64 a0_8, .slice A0_9 l0_9.length c0_9] 60 (0, 0)) (by (with_reducible repeat (first | refine blk_drewN ?_ _ | refine blk_drew ?_ | refine blk_alloc ?_ _)); exact BK1152.out) hb); have n1_ := Aside0.mk (below_step (by repeat (first | (with_reducible first | exact HB.out | apply below_alloc | apply pw_below_drewN | apply below_drew1 | refine below_set ?_ GE1152.out) | exact HB.out)) hb); clear BK1152; clear HB; have BK1152 := n0_; have HB := n1_; clear n0_ n1_; (try clear hb); (try clear hb2); (try clear hk); (try clear hi)))
  (try simp only [Act.put, List.setIfInBounds_toArray, List.set_cons_zero, List.set_cons_succ])
  have H := HC3.out
  clear HC3
  by_cases c7 : t1153 < 0
  · rw [if_pos c7] at H
    have c7b0 : decide (t1153 < 0) = true := decide_eq_true c7
    clear c7
    (first | rw [c7b0] | (simp only [i64_w, i32_w]; rw [c7b0]) | skip)
    obtain rfl := Option.some.inj H
    go_wp2
    go_ret
    exact ⟨by first | rfl | (simp [errW_none, errW_some] <;> rfl) | (simp [*, errW_none, errW_some] <;> rfl), by repeat (first | (with_reducible first | exact HB.out | apply below_alloc | apply pw_below_drewN | apply below_drew1 | refine below_set ?_ GE1152.out) | exact HB.out)⟩
  · rw [if_neg c7] at H
    have c7b0 : decide (t1153 < 0) = false := decide_eq_false c7
    clear c7
    (first | rw [c7b0] | (simp only [i64_w, i32_w]; rw [c7b0]) | skip)
    replace H := Option.bind_eq_some_iff.mp H
    obtain ⟨⟨t1154, t1155, t1156, t1157, t1158, t1161, t1162, t1163, t1164, t1165⟩, A80, H⟩ := H
    replace H : ((spec_OrderOk.f k t1154 t1155 t1156 t1157 t1158 t1161 t1162 t1163 t1164 t1165).bind fun t1168 => ((laws_toOrder.f k a0_0 a0_1 a0_2 a0_3 l0_4 a0_5 a0_6 a0_7 a0_8 l0_9).bind fun bt1169 => ((impl_OrderOk.f k bt1169.1 bt1169.2.1 bt1169.2.2.1 bt1169.2.2.2.1 bt1169.2.2.2.2.1 bt1169.2.2.2.2.2.1 bt1169.2.2.2.2.2.2.1 bt1169.2.2.2.2.2.2.2.1 bt1169.2.2.2.2.2.2.2.2.1 bt1169.2.2.2.2.2.2.2.2.2).bind fun t1184 => (if (t1184 != t1168) = true then (some false) else ((laws_toOrder.f k a0_0 a0_1 a0_2 a0_3 l0_4 a0_5 a0_6 a0_7 a0_8 l0_9).bind fun bt1185 => ((laws_eqOrder.f k bt1169.1 bt1169.2.1 bt1169.2.2.1 bt1169.2.2.2.1 bt1169.2.2.2.2.1 bt1169.2.2.2.2.2.1 bt1169.2.2.2.2.2.2.1 bt1169.2.2.2.2.2.2.2.1 bt1169.2.2.2.2.2.2.2.2.1 bt1169.2.2.2.2.2.2.2.2.2 bt1185.1 bt1185.2.1 bt1185.2.2.1 bt1185.2.2.2.1 bt1185.2.2.2.2.1 bt1185.2.2.2.2.2.1 bt1185.2.2.2.2.2.2.1 bt1185.2.2.2.2.2.2.2.1 bt1185.2.2.2.2.2.2.2.2.1 bt1185.2.2.2.2.2.2.2.2.2).bind fun t1199 => (if t1199 = true then (some true) else (some false)))))))) = some r := H
    have A8 := Aside0.mk A80
    clear A80
    replace H := Option.bind_eq_some_iff.mp H
    obtain ⟨t1168, A90, H⟩ := H
    replace H : ((laws_toOrder.f k a0_0 a0_1 a0_2 a0_3 l0_4 a0_5 a0_6 a0_7 a0_8 l0_9).bind fun bt1169 => ((impl_OrderOk.f k bt1169.1 bt1169.2.1 bt1169.2.2.1 bt1169.2.2.2.1 bt1169.2.2.2.2.1 bt1169.2.2.2.2.2.1 bt1169.2.2.2.2.2.2.1 bt1169.2.2.2.2.2.2.2.1 bt1169.2.2.2.2.2.2.2.2.1 bt1169.2.2.2.2.2.2.2.2.2).bind fun t1184 => (if (t1184 != t1168) = true then (some false) else ((laws_toOrder.f k a0_0 a0_1 a0_2 a0_3 l0_4 a0_5 a0_6 a0_7 a0_8 l0_9).bind fun bt1185 => ((laws_eqOrder.f k bt1169.1 bt1169.2.1 bt1169.2.2.1 bt1169.2.2.2.1 bt1169.2.2.2.2.1 bt1169.2.2.2.2.2.1 bt1169.2.2.2.2.2.2.1 bt1169.2.2.2.2.2.2.2.1 bt1169.2.2.2.2.2.2.2.2.1 bt1169.2.2.2.2.2.2.2.2.2 bt1185.1 bt1185.2.1 bt1185.2.2.1 bt1185.2.2.2.1 bt1185.2.2.2.2.1 bt1185.2.2.2.2.2.1 bt1185.2.2.2.2.2.2.1 bt1185.2.2.2.2.2.2.2.1 bt1185.2.2.2.2.2.2.2.2.1 bt1185.2.2.2.2.2.2.2.2.2).bind fun t1199 => (if t1199 = true then (some true) else (some false))))))) = some r := H
    have A9 := Aside0.mk A90
    clear A90
    replace H := Option.bind_eq_some_iff.mp H
    obtain ⟨⟨t1169, t1170, t1171, t1172, t1173, t1176, t1177, t1178, t1179, t1180⟩, A100, H⟩ := H
    replace H : ((impl_OrderOk.f k t1169 t1170 t1171 t1172 t1173 t1176 t1177 t1178 t1179 t1180).bind fun t1184 => (if (t1184 != t1168) = true then (some false) else ((laws_toOrder.f k a0_0 a0_1 a0_2 a0_3 l0_4 a0_5 a0_6 a0_7 a0_8 l0_9).bind fun bt1185 => ((laws_eqOrder.f k t1169 t1170 t1171 t1172 t1173 t1176 t1177 t1178 t1179 t1180 bt1185.1 bt1185.2.1 bt1185.2.2.1 bt1185.2.2.2.1 bt1185.2.2.2.2.1 bt1185.2.2.2.2.2.1 bt1185.2.2.2.2.2.2.1 bt1185.2.2.2.2.2.2.2.1 bt1185.2.2.2.2.2.2.2.2.1 bt1185.2.2.2.2.2.2.2.2.2).bind fun t1199 => (if t1199 = true then (some true) else (some false)))))) = some r := H
    have A10 := Aside0.mk A100
    clear A100
    replace H := Option.bind_eq_some_iff.mp H
    obtain ⟨t1184, A110, H⟩ := H
    replace H : (if (t1184 != t1168) = true then (some false) else ((laws_toOrder.f k a0_0 a0_1 a0_2 a0_3 l0_4 a0_5 a0_6 a0_7 a0_8 l0_9).bind fun bt1185 => ((laws_eqOrder.f k t1169 t1170 t1171 t1172 t1173 t1176 t1177 t1178 t1179 t1180 bt1185.1 bt1185.2.1 bt1185.2.2.1 bt1185.2.2.2.1 bt1185.2.2.2.2.1 bt1185.2.2.2.2.2.1 bt1185.2.2.2.2.2.2.1 bt1185.2.2.2.2.2.2.2.1 bt1185.2.2.2.2.2.2.2.2.1 bt1185.2.2.2.2.2.2.2.2.2).bind fun t1199 => (if t1199 = true then (some true) else (some false))))) = some r := H
    have A11 := Aside0.mk A110
    clear A110
    have HC12 := Aside0.mk H
    clear H
    have hcz13_0 : w6.cell? ⟨gb1152, 0, none⟩ = some (.string a0_0) := (blk_cell BK1152.out 0).trans rfl
    have hcz13_1 : w6.cell? ⟨gb1152, 1, none⟩ = some (.string a0_1) := (blk_cell BK1152.out 1).trans rfl
    have hcz13_2 : w6.cell? ⟨gb1152, 2, none⟩ = some (.int .i64 a0_2) := (blk_cell BK1152.out 2).trans rfl
    have hcz13_3 : w6.cell? ⟨gb1152, 3, none⟩ = some (.int .i64 a0_3) := (blk_cell BK1152.out 3).trans rfl
    have hcz13_4 : w6.cell? ⟨gb1152, 4, none⟩ = some (.slice A0_4 l0_4.length c0_4) := (blk_cell BK1152.out 4).trans rfl
    have hcz13_5 : w6.cell? ⟨gb1152, 5, none⟩ = some (.int .i64 a0_5) := (blk_cell BK1152.out 5).trans rfl
    have hcz13_6 : w6.cell? ⟨gb1152, 6, none⟩ = some (.int .i64 a0_6) := (blk_cell BK1152.out 6).trans rfl
    have hcz13_7 : w6.cell? ⟨gb1152, 7, none⟩ = some (.int .i64 a0_7) := (blk_cell BK1152.out 7).trans rfl
    have hcz13_8 : w6.cell? ⟨gb1152, 8, none⟩ = some (.int .i64 a0_8) := (blk_cell BK1152.out 8).trans rfl
    have hcz13_9 : w6.cell? ⟨gb1152, 9, none⟩ = some (.slice A0_9 l0_9.length c0_9) := (blk_cell BK1152.out 9).trans rfl
    have hfz13_0 := blk_frozen BK1152.out 0
    have hfz13_1 := blk_frozen BK1152.out 1
    have hfz13_2 := blk_frozen BK1152.out 2
    have hfz13_3 := blk_frozen BK1152.out 3
    have hfz13_4 := blk_frozen BK1152.out 4
    have hfz13_5 := blk_frozen BK1152.out 5
    have hfz13_6 := blk_frozen BK1152.out 6
    have hfz13_7 := blk_frozen BK1152.out 7
    have hfz13_8 := blk_frozen BK1152.out 8
    have hfz13_9 := blk_frozen BK1152.out 9
    go_upto_if 21 with (first | ((with_reducible refine gate_callee (f := 61) rfl ?_); refine goesL_ (some 13) rfl rfl Try.func61 (by kernel_rfl) rfl #[.agg #[.string a0_0, .string a0_1, .int .i64 a0_2, .int .i64 a0_3, .slice A0_4 l0_4.length c0_4, .int .i64 a0_5, .int .i64 a0_6, .int .i64 a0_7, .int .i64 a0_8, .slice A0_9 l0_9.length c0_9]] rfl (by (try simp only [List.map_toArray, List.map_cons, List.map_nil]); first | done | rfl | (simp only [List.length_drop, List.length_take]; rfl)) ?_; (with_reducible refine (laws_toOrder.calls k a0_0 a0_1 a0_2 a0_3 _ _ l0_4 a0_5 a0_6 a0_7 a0_8 _ _ l0_9 t1154 t1155 t1156 t1157 t1158 t1161 t1162 t1163 t1164 t1165 _ ?side1 ?side2 ?side3 ?side4 A8.out).mono ?_); (case side1 => repeat (first | exact (Kd.C_below HR0_4.out HB.out) | (with_reducible refine Kd.C_alloc ?_ _) | (with_reducible refine Kd.C_drewN ?_ _) | (with_reducible refine Kd.C_drew ?_))); (case side2 => exact HC0_4.out); (case side3 => repeat (first | exact (Kd.C_below HR0_9.out HB.out) | (with_reducible refine Kd.C_alloc ?_ _) | (with_reducible refine Kd.C_drewN ?_ _) | (with_reducible refine Kd.C_drew ?_))); (case side4 => exact HC0_9.out); rintro e w14 ⟨v1159, v1166, rfl, ho0, ho1, hb⟩; refine ⟨_, rfl, ?_⟩; have n0_ := Aside0.mk (Kd.R_lower ho0 (below_size (by repeat (first | (with_reducible first | exact HB.out | apply below_alloc | apply pw_below_drewN | apply below_drew1 | refine below_set ?_ GE1152.out) | exact HB.out)))); have n1_ := Aside0.mk (Kd.R_lower ho1 (below_size (by repeat (first | (with_reducible first | exact HB.out | apply below_alloc | apply pw_below_drewN | apply below_drew1 | refine below_set ?_ GE1152.out) | exact HB.out)))); have n2_ := Aside0.mk (blk_below (g := gb1152) (o := .cells #[.string a0_0, .string a0_1, .int .i64 a0_2, .int .i64 a0_3, .slice A0_4 l0_4.length c0_4, .int .i64 a0_5, .int .i64 a0_6, .int .i64 a0_7, .int .i64 a0_8, .slice A0_9 l0_9.length c0_9] 60 (0, 0)) (by (with_reducible repeat (first | refine blk_drewN ?_ _ | refine blk_drew ?_ | refine blk_alloc ?_ _)); exact BK1152.out) hb); have n3_ := Aside0.mk (below_step (by repeat (first | (with_reducible first | exact HB.out | apply below_alloc | apply pw_below_drewN | apply below_drew1 | refine below_set ?_ GE1152.out) | exact HB.out)) hb); clear BK1152; clear HB; have HO1160 := n0_; have HO1167 := n1_; have BK1152 := n2_; have HB := n3_; clear n0_ n1_ n2_ n3_; (try clear hb); (try clear hb2); (try clear hk); (try clear hi); (try clear ho0); (try clear ho1); obtain ⟨Ao15, co15, eo15⟩ := Kd.R_slice HO1160.out; subst eo15; obtain ⟨Ao16, co16, eo16⟩ := Kd.R_slice HO1167.out; subst eo16) | ((with_reducible refine gate_callee (f := 75) rfl ?_); refine goesL_ (some 14) rfl rfl Try.func75 (by kernel_rfl) rfl #[.agg #[.string t1154, .string t1155, .int .i64 t1156, .int .i64 t1157, .slice Ao15 t1158.length co15, .int .i64 t1161, .int .i64 t1162, .int .i64 t1163, .int .i64 t1164, .slice Ao16 t1165.length co16]] rfl (by (try simp only [List.map_toArray, List.map_cons, List.map_nil]); first | done | rfl | (simp only [List.length_drop, List.length_take]; rfl)) ?_; (with_reducible refine (spec_OrderOk.calls k t1154 t1155 t1156 t1157 _ _ t1158 t1161 t1162 t1163 t1164 _ _ t1165 t1168 _ ?side1 ?side2 ?side3 ?side4 A9.out).mono ?_); (case side1 => repeat (first | exact (Kd.R_reads' HO1160.out).2.2 | (with_reducible refine Kd.C_alloc ?_ _) | (with_reducible refine Kd.C_drewN ?_ _) | (with_reducible refine Kd.C_drew ?_))); (case side2 => exact (Kd.R_reads' HO1160.out).2.1); (case side3 => repeat (first | exact (Kd.R_reads' HO1167.out).2.2 | (with_reducible refine Kd.C_alloc ?_ _) | (with_reducible refine Kd.C_drewN ?_ _) | (with_reducible refine Kd.C_drew ?_))); (case side4 => exact (Kd.R_reads' HO1167.out).2.1); rintro e w17 ⟨rfl, hb⟩; refine ⟨_, rfl, ?_⟩; have n0_ := Aside0.mk (Kd.R_below (by (with_reducible repeat (first | apply Kd.R_alloc | apply Kd.R_drewN | apply Kd.R_drew)); exact HO1160.out) hb); have n1_ := Aside0.mk (Kd.R_below (by (with_reducible repeat (first | apply Kd.R_alloc | apply Kd.R_drewN | apply Kd.R_drew)); exact HO1167.out) hb); have n2_ := Aside0.mk (blk_below (g := gb1152) (o := .cells #[.string a0_0, .string a0_1, .int .i64 a0_2, .int .i64 a0_3, .slice A0_4 l0_4.length c0_4, .int .i64 a0_5, .int .i64 a0_6, .int .i64 a0_7, .int .i64 a0_8, .slice A0_9 l0_9.length c0_9] 60 (0, 0)) (by (with_reducible repeat (first | refine blk_drewN ?_ _ | refine blk_drew ?_ | refine blk_alloc ?_ _)); exact BK1152.out) hb); have n3_ := Aside0.mk (below_step (by repeat (first | (with_reducible first | exact HB.out | apply below_alloc | apply pw_below_drewN | apply below_drew1 | refine below_set ?_ GE1152.out) | exact HB.out)) hb); clear HO1160; clear HO1167; clear BK1152; clear HB; have HO1160 := n0_; have HO1167 := n1_; have BK1152 := n2_; have HB := n3_; clear n0_ n1_ n2_ n3_; (try clear hb); (try clear hb2); (try clear hk); (try clear hi); have hcz18_0 : w17.cell? ⟨gb1152, 0, none⟩ = some (.string a0_0) := (blk_cell BK1152.out 0).trans rfl; have hcz18_1 : w17.cell? ⟨gb1152, 1, none⟩ = some (.string a0_1) := (blk_cell BK1152.out 1).trans rfl; have hcz18_2 : w17.cell? ⟨gb1152, 2, none⟩ = some (.int .i64 a0_2) := (blk_cell BK1152.out 2).trans rfl; have hcz18_3 : w17.cell? ⟨gb1152, 3, none⟩ = some (.int .i64 a0_3) := (blk_cell BK1152.out 3).trans rfl; have hcz18_4 : w17.cell? ⟨gb1152, 4, none⟩ = some (.slice A0_4 l0_4.length c0_4) := (blk_cell BK1152.out 4).trans rfl; have hcz18_5 : w17.cell? ⟨gb1152, 5, none⟩ = some (.int .i64 a0_5) := (blk_cell BK1152.out 5).trans rfl; have hcz18_6 : w17.cell? ⟨gb1152, 6, none⟩ = some (.int .i64 a0_6) := (blk_cell BK1152.out 6).trans rfl; have hcz18_7 : w17.cell? ⟨gb1152, 7, none⟩ = some (.int .i64 a0_7) := (blk_cell BK1152.out 7).trans rfl; have hcz18_8 : w17.cell? ⟨gb1152, 8, none⟩ = some (.int .i64 a0_8) := (blk_cell BK1152.out 8).trans rfl; have hcz18_9 : w17.cell? ⟨gb1152, 9, none⟩ = some (.slice A0_9 l0_9.length c0_9) := (blk_cell BK1152.out 9).trans rfl; have hfz18_0 := blk_frozen BK1152.out 0; have hfz18_1 := blk_frozen BK1152.out 1; have hfz18_2 := blk_frozen BK1152.out 2; have hfz18_3 := blk_frozen BK1152.out 3; have hfz18_4 := blk_frozen BK1152.out 4; have hfz18_5 := blk_frozen BK1152.out 5; have hfz18_6 := blk_frozen BK1152.out 6; have hfz18_7 := blk_frozen BK1152.out 7; have hfz18_8 := blk_frozen BK1152.out 8; have hfz18_9 := blk_frozen BK1152.out 9) | ((with_reducible refine gate_callee (f := 61) rfl ?_); refine goesL_ (some 16) rfl rfl Try.func61 (by kernel_rfl) rfl #[.agg #[.string a0_0, .string a0_1, .int .i64 a0_2, .int .i64 a0_3, .slice A0_4 l0_4.length c0_4, .int .i64 a0_5, .int .i64 a0_6, .int .i64 a0_7, .int .i64 a0_8, .slice A0_9 l0_9.length c0_9]] rfl (by (try simp only [List.map_toArray, List.map_cons, List.map_nil]); first | done | rfl | (simp only [List.length_drop, List.length_take]; rfl)) ?_; (with_reducible refine (laws_toOrder.calls k a0_0 a0_1 a0_2 a0_3 _ _ l0_4 a0_5 a0_6 a0_7 a0_8 _ _ l0_9 t1169 t1170 t1171 t1172 t1173 t1176 t1177 t1178 t1179 t1180 _ ?side1 ?side2 ?side3 ?side4 A10.out).mono ?_); (case side1 => repeat (first | exact (Kd.C_below HR0_4.out HB.out) | (with_reducible refine Kd.C_alloc ?_ _) | (with_reducible refine Kd.C_drewN ?_ _) | (with_reducible refine Kd.C_drew ?_))); (case side2 => exact HC0_4.out); (case side3 => repeat (first | exact (Kd.C_below HR0_9.out HB.out) | (with_reducible refine Kd.C_alloc ?_ _) | (with_reducible refine Kd.C_drewN ?_ _) | (with_reducible refine Kd.C_drew ?_))); (case side4 => exact HC0_9.out); rintro e w19 ⟨v1174, v1181, rfl, ho0, ho1, hb⟩; refine ⟨_, rfl, ?_⟩; have n0_ := Aside0.mk (Kd.R_elder' (by (with_reducible repeat (first | apply Kd.R_alloc | apply Kd.R_drewN | apply Kd.R_drew)); exact HO1160.out) (Kd.R_base ho0) hb); have n1_ := Aside0.mk (Kd.R_elder' (by (with_reducible repeat (first | apply Kd.R_alloc | apply Kd.R_drewN | apply Kd.R_drew)); exact HO1167.out) (Kd.R_base ho1) hb); have n2_ := Aside0.mk (Kd.R_lower (Kd.R_new' ho0 (Kd.R_lt (by (with_reducible repeat (first | apply Kd.R_alloc | apply Kd.R_drewN | apply Kd.R_drew)); exact HO1160.out))) (below_size (by repeat (first | (with_reducible first | exact HB.out | apply below_alloc | apply pw_below_drewN | apply below_drew1 | refine below_set ?_ GE1152.out) | exact HB.out)))); have n3_ := Aside0.mk (Kd.R_lower (Kd.R_new' ho1 (Kd.R_lt (by (with_reducible repeat (first | apply Kd.R_alloc | apply Kd.R_drewN | apply Kd.R_drew)); exact HO1167.out))) (below_size (by repeat (first | (with_reducible first | exact HB.out | apply below_alloc | apply pw_below_drewN | apply below_drew1 | refine below_set ?_ GE1152.out) | exact HB.out)))); have n4_ := Aside0.mk (blk_below (g := gb1152) (o := .cells #[.string a0_0, .string a0_1, .int .i64 a0_2, .int .i64 a0_3, .slice A0_4 l0_4.length c0_4, .int .i64 a0_5, .int .i64 a0_6, .int .i64 a0_7, .int .i64 a0_8, .slice A0_9 l0_9.length c0_9] 60 (0, 0)) (by (with_reducible repeat (first | refine blk_drewN ?_ _ | refine blk_drew ?_ | refine blk_alloc ?_ _)); exact BK1152.out) hb); have n5_ := Aside0.mk (below_step (by repeat (first | (with_reducible first | exact HB.out | apply below_alloc | apply pw_below_drewN | apply below_drew1 | refine below_set ?_ GE1152.out) | exact HB.out)) hb); clear HO1160; clear HO1167; clear BK1152; clear HB; have HO1160 := n0_; have HO1167 := n1_; have HO1175 := n2_; have HO1182 := n3_; have BK1152 := n4_; have HB := n5_; clear n0_ n1_ n2_ n3_ n4_ n5_; (try clear hb); (try clear hb2); (try clear hk); (try clear hi); (try clear ho0); (try clear ho1)) | ((with_reducible refine gate_dst (N := 5) rfl ?_); refine box_event ?hg (N := 5) ?hd (cs := #[.string (⟨#[]⟩ : ByteArray), .string (⟨#[]⟩ : ByteArray), .int .i64 0, .int .i64 0, .slice none 0 0, .int .i64 0, .int .i64 0, .int .i64 0, .int .i64 0, .slice none 0 0]) (t := 65) ?hr ?_; (case hd => rfl); (case hg => rfl); (case hr => first | (go_simp; done) | (go_simp; rfl)); intro gb1183 hg w20 hbox hb; have n0_ := Aside0.mk (Kd.R_below (by (with_reducible repeat (first | apply Kd.R_alloc | apply Kd.R_drewN | apply Kd.R_drew)); exact HO1160.out) hb); have n1_ := Aside0.mk (Kd.R_below (by (with_reducible repeat (first | apply Kd.R_alloc | apply Kd.R_drewN | apply Kd.R_drew)); exact HO1167.out) hb); have n2_ := Aside0.mk (Kd.R_below (by (with_reducible repeat (first | apply Kd.R_alloc | apply Kd.R_drewN | apply Kd.R_drew)); exact HO1175.out) hb); have n3_ := Aside0.mk (Kd.R_below (by (with_reducible repeat (first | apply Kd.R_alloc | apply Kd.R_drewN | apply Kd.R_drew)); exact HO1182.out) hb); have n4_ := Aside0.mk (blk_below (g := gb1152) (o := .cells #[.string a0_0, .string a0_1, .int .i64 a0_2, .int .i64 a0_3, .slice A0_4 l0_4.length c0_4, .int .i64 a0_5, .int .i64 a0_6, .int .i64 a0_7, .int .i64 a0_8, .slice A0_9 l0_9.length c0_9] 60 (0, 0)) (by (with_reducible repeat (first | refine blk_drewN ?_ _ | refine blk_drew ?_ | refine blk_alloc ?_ _)); exact BK1152.out) hb); have n5_ := Aside0.mk (below_step (by repeat (first | (with_reducible first | exact HB.out | apply below_alloc | apply pw_below_drewN | apply below_drew1 | refine below_set ?_ GE1152.out) | exact HB.out)) hb); have n6_ := Aside0.mk (hbox); have n7_ := Aside0.mk ((by rw [hg]; exact (below_size (by repeat (first | (with_reducible first | exact HB.out | apply below_alloc | apply pw_below_drewN | apply below_drew1 | refine below_set ?_ GE1152.out) | exact HB.out))) : w.heap.size ≤ gb1183)); have n8_ := Aside0.mk ((by rw [hg]; exact (below_size (by repeat (first | (with_reducible first | exact HB.out | apply below_alloc | apply pw_below_drewN | apply below_drew1 | refine below_set ?_ GE1152.out) | exact HB.out))) : w.heap.size ≤ gb1183)); have n9_ := Aside0.mk ((by rw [hg]; exact Nat.ne_of_lt (blk_lt (g := gb1152) (o := .cells #[.string a0_0, .string a0_1, .int .i64 a0_2, .int .i64 a0_3, .slice A0_4 l0_4.length c0_4, .int .i64 a0_5, .int .i64 a0_6, .int .i64 a0_7, .int .i64 a0_8, .slice A0_9 l0_9.length c0_9] 60 (0, 0)) (by (with_reducible repeat (first | refine blk_drewN ?_ _ | refine blk_drew ?_ | refine blk_alloc ?_ _)); exact BK1152.out)) : gb1152 ≠ gb1183)); have n10_ := Aside0.mk ((by rw [hg]; exact Nat.ne_of_gt (blk_lt (g := gb1152) (o := .cells #[.string a0_0, .string a0_1, .int .i64 a0_2, .int .i64 a0_3, .slice A0_4 l0_4.length c0_4, .int .i64 a0_5, .int .i64 a0_6, .int .i64 a0_7, .int .i64 a0_8, .slice A0_9 l0_9.length c0_9] 60 (0, 0)) (by (with_reducible repeat (first | refine blk_drewN ?_ _ | refine blk_drew ?_ | refine blk_alloc ?_ _)); exact BK1152.out)) : gb1183 ≠ gb1152)); clear HO1160; clear HO1167; clear HO1175; clear HO1182; clear BK1152; clear HB; have HO1160 := n0_; have HO1167 := n1_; have HO1175 := n2_; have HO1182 := n3_; have BK1152 := n4_; have HB := n5_; have BK1183 := n6_; have GW1183 := n7_; have GE1183 := n8_; have NB1152_1183 := n9_; have NB1183_1152 := n10_; clear n0_ n1_ n2_ n3_ n4_ n5_ n6_ n7_ n8_ n9_ n10_; clear hb hbox hg; have hnb21 := NB1183_1152.out; have hnc21 := NB1152_1183.out; have hcz22_0 : w20.cell? ⟨gb1183, 0, none⟩ = some (.string (⟨#[]⟩ : ByteArray)) := (blk_cell BK1183.out 0).trans rfl; have hcz22_1 : w20.cell? ⟨gb1183, 1, none⟩ = some (.string (⟨#[]⟩ : ByteArray)) := (blk_cell BK1183.out 1).trans rfl; have hcz22_2 : w20.cell? ⟨gb1183, 2, none⟩ = some (.int .i64 0) := (blk_cell BK1183.out 2).trans rfl; have hcz22_3 : w20.cell? ⟨gb1183, 3, none⟩ = some (.int .i64 0) := (blk_cell BK1183.out 3).trans rfl; have hcz22_4 : w20.cell? ⟨gb1183, 4, none⟩ = some (.slice none 0 0) := (blk_cell BK1183.out 4).trans rfl; have hcz22_5 : w20.cell? ⟨gb1183, 5, none⟩ = some (.int .i64 0) := (blk_cell BK1183.out 5).trans rfl; have hcz22_6 : w20.cell? ⟨gb1183, 6, none⟩ = some (.int .i64 0) := (blk_cell BK1183.out 6).trans rfl; have hcz22_7 : w20.cell? ⟨gb1183, 7, none⟩ = some (.int .i64 0) := (blk_cell BK1183.out 7).trans rfl; have hcz22_8 : w20.cell? ⟨gb1183, 8, none⟩ = some (.int .i64 0) := (blk_cell BK1183.out 8).trans rfl; have hcz22_9 : w20.cell? ⟨gb1183, 9, none⟩ = some (.slice none 0 0) := (blk_cell BK1183.out 9).trans rfl; have hfz22_0 := blk_frozen BK1183.out 0; have hfz22_1 := blk_frozen BK1183.out 1; have hfz22_2 := blk_frozen BK1183.out 2; have hfz22_3 := blk_frozen BK1183.out 3; have hfz22_4 := blk_frozen BK1183.out 4; have hfz22_5 := blk_frozen BK1183.out 5; have hfz22_6 := blk_frozen BK1183.out 6; have hfz22_7 := blk_frozen BK1183.out 7; have hfz22_8 := blk_frozen BK1183.out 8; have hfz22_9 := blk_frozen BK1183.out 9; obtain ⟨Ao23, co23, eo23⟩ := Kd.R_slice HO1175.out; subst eo23; obtain ⟨Ao24, co24, eo24⟩ := Kd.R_slice HO1182.out; subst eo24) | ((with_reducible refine gate_callee (f := 74) rfl ?_); refine goesL_ (some 18) rfl rfl Try.func74 (by kernel_rfl) rfl #[.agg #[.string t1169, .string t1170, .int .i64 t1171, .int .i64 t1172, .slice Ao23 t1173.length co23, .int .i64 t1176, .int .i64 t1177, .int .i64 t1178, .int .i64 t1179, .slice Ao24 t1180.length co24]] rfl (by (try simp only [List.map_toArray, List.map_cons, List.map_nil]); first | done | rfl | (simp only [List.length_drop, List.length_take]; rfl)) ?_; (with_reducible refine (impl_OrderOk.calls k t1169 t1170 t1171 t1172 _ _ t1173 t1176 t1177 t1178 t1179 _ _ t1180 t1184 _ ?side1 ?side2 ?side3 ?side4 A11.out).mono ?_); (case side1 => refine (Kd.R_reads' (e := 35) (base := w.heap.size) (ok := fun k_ => (True ∧ some k_ ≠ (.slice Ao15 t1158.length co15 : Value).ownBlock)) (n := t1173.length) (c := co23) ?_).2.2; exact (by (with_reducible repeat (first | apply Kd.R_alloc | apply Kd.R_drewN | apply Kd.R_drew)); exact (Kd.R_mono (Kd.R_far (p := ⟨gb1183, 9, none⟩) (Kd.R_far (p := ⟨gb1183, 8, none⟩) (Kd.R_far (p := ⟨gb1183, 7, none⟩) (Kd.R_far (p := ⟨gb1183, 6, none⟩) (Kd.R_far (p := ⟨gb1183, 5, none⟩) (Kd.R_far (p := ⟨gb1183, 4, none⟩) (Kd.R_far (p := ⟨gb1183, 3, none⟩) (Kd.R_far (p := ⟨gb1183, 2, none⟩) (Kd.R_far (p := ⟨gb1183, 1, none⟩) (Kd.R_far (p := ⟨gb1183, 0, none⟩) (Kd.R_types HO1175.out BK1183.out (by decide)) (fun _ hk => hk.2) (.string t1169)) (fun _ hk => hk.2) (.string t1170)) (fun _ hk => hk.2) (.int .i64 t1171)) (fun _ hk => hk.2) (.int .i64 t1172)) (fun _ hk => hk.2) (.slice Ao23 t1173.length co23)) (fun _ hk => hk.2) (.int .i64 t1176)) (fun _ hk => hk.2) (.int .i64 t1177)) (fun _ hk => hk.2) (.int .i64 t1178)) (fun _ hk => hk.2) (.int .i64 t1179)) (fun _ hk => hk.2) (.slice Ao24 t1180.length co24)) (fun _ h_ => h_.1)))); (case side2 => exact (Kd.R_reads' HO1175.out).2.1); (case side3 => refine (Kd.R_reads' (e := 94) (base := w.heap.size) (ok := fun k_ => (True ∧ some k_ ≠ (.slice Ao16 t1165.length co16 : Value).ownBlock)) (n := t1180.length) (c := co24) ?_).2.2; exact (by (with_reducible repeat (first | apply Kd.R_alloc | apply Kd.R_drewN | apply Kd.R_drew)); exact (Kd.R_mono (Kd.R_far (p := ⟨gb1183, 9, none⟩) (Kd.R_far (p := ⟨gb1183, 8, none⟩) (Kd.R_far (p := ⟨gb1183, 7, none⟩) (Kd.R_far (p := ⟨gb1183, 6, none⟩) (Kd.R_far (p := ⟨gb1183, 5, none⟩) (Kd.R_far (p := ⟨gb1183, 4, none⟩) (Kd.R_far (p := ⟨gb1183, 3, none⟩) (Kd.R_far (p := ⟨gb1183, 2, none⟩) (Kd.R_far (p := ⟨gb1183, 1, none⟩) (Kd.R_far (p := ⟨gb1183, 0, none⟩) (Kd.R_types HO1182.out BK1183.out (by decide)) (fun _ hk => hk.2) (.string t1169)) (fun _ hk => hk.2) (.string t1170)) (fun _ hk => hk.2) (.int .i64 t1171)) (fun _ hk => hk.2) (.int .i64 t1172)) (fun _ hk => hk.2) (.slice Ao23 t1173.length co23)) (fun _ hk => hk.2) (.int .i64 t1176)) (fun _ hk => hk.2) (.int .i64 t1177)) (fun _ hk => hk.2) (.int .i64 t1178)) (fun _ hk => hk.2) (.int .i64 t1179)) (fun _ hk => hk.2) (.slice Ao24 t1180.length co24)) (fun _ h_ => h_.1)))); (case side4 => exact (Kd.R_reads' HO1182.out).2.1); rintro e w25 ⟨rfl, hb⟩; refine ⟨_, rfl, ?_⟩; have n0_ := Aside0.mk (Kd.R_below (by (with_reducible repeat (first | apply Kd.R_alloc | apply Kd.R_drewN | apply Kd.R_drew)); exact (Kd.R_mono (Kd.R_far (p := ⟨gb1183, 9, none⟩) (Kd.R_far (p := ⟨gb1183, 8, none⟩) (Kd.R_far (p := ⟨gb1183, 7, none⟩) (Kd.R_far (p := ⟨gb1183, 6, none⟩) (Kd.R_far (p := ⟨gb1183, 5, none⟩) (Kd.R_far (p := ⟨gb1183, 4, none⟩) (Kd.R_far (p := ⟨gb1183, 3, none⟩) (Kd.R_far (p := ⟨gb1183, 2, none⟩) (Kd.R_far (p := ⟨gb1183, 1, none⟩) (Kd.R_far (p := ⟨gb1183, 0, none⟩) (Kd.R_types HO1160.out BK1183.out (by decide)) (fun _ hk => hk.2) (.string t1169)) (fun _ hk => hk.2) (.string t1170)) (fun _ hk => hk.2) (.int .i64 t1171)) (fun _ hk => hk.2) (.int .i64 t1172)) (fun _ hk => hk.2) (.slice Ao23 t1173.length co23)) (fun _ hk => hk.2) (.int .i64 t1176)) (fun _ hk => hk.2) (.int .i64 t1177)) (fun _ hk => hk.2) (.int .i64 t1178)) (fun _ hk => hk.2) (.int .i64 t1179)) (fun _ hk => hk.2) (.slice Ao24 t1180.length co24)) (fun _ h_ => h_.1))) hb); have n1_ := Aside0.mk (Kd.R_below (by (with_reducible repeat (first | apply Kd.R_alloc | apply Kd.R_drewN | apply Kd.R_drew)); exact (Kd.R_mono (Kd.R_far (p := ⟨gb1183, 9, none⟩) (Kd.R_far (p := ⟨gb1183, 8, none⟩) (Kd.R_far (p := ⟨gb1183, 7, none⟩) (Kd.R_far (p := ⟨gb1183, 6, none⟩) (Kd.R_far (p := ⟨gb1183, 5, none⟩) (Kd.R_far (p := ⟨gb1183, 4, none⟩) (Kd.R_far (p := ⟨gb1183, 3, none⟩) (Kd.R_far (p := ⟨gb1183, 2, none⟩) (Kd.R_far (p := ⟨gb1183, 1, none⟩) (Kd.R_far (p := ⟨gb1183, 0, none⟩) (Kd.R_types HO1167.out BK1183.out (by decide)) (fun _ hk => hk.2) (.string t1169)) (fun _ hk => hk.2) (.string t1170)) (fun _ hk => hk.2) (.int .i64 t1171)) (fun _ hk => hk.2) (.int .i64 t1172)) (fun _ hk => hk.2) (.slice Ao23 t1173.length co23)) (fun _ hk => hk.2) (.int .i64 t1176)) (fun _ hk => hk.2) (.int .i64 t1177)) (fun _ hk => hk.2) (.int .i64 t1178)) (fun _ hk => hk.2) (.int .i64 t1179)) (fun _ hk => hk.2) (.slice Ao24 t1180.length co24)) (fun _ h_ => h_.1))) hb); have n2_ := Aside0.mk (Kd.R_below (by (with_reducible repeat (first | apply Kd.R_alloc | apply Kd.R_drewN | apply Kd.R_drew)); exact (Kd.R_mono (Kd.R_far (p := ⟨gb1183, 9, none⟩) (Kd.R_far (p := ⟨gb1183, 8, none⟩) (Kd.R_far (p := ⟨gb1183, 7, none⟩) (Kd.R_far (p := ⟨gb1183, 6, none⟩) (Kd.R_far (p := ⟨gb1183, 5, none⟩) (Kd.R_far (p := ⟨gb1183, 4, none⟩) (Kd.R_far (p := ⟨gb1183, 3, none⟩) (Kd.R_far (p := ⟨gb1183, 2, none⟩) (Kd.R_far (p := ⟨gb1183, 1, none⟩) (Kd.R_far (p := ⟨gb1183, 0, none⟩) (Kd.R_types HO1175.out BK1183.out (by decide)) (fun _ hk => hk.2) (.string t1169)) (fun _ hk => hk.2) (.string t1170)) (fun _ hk => hk.2) (.int .i64 t1171)) (fun _ hk => hk.2) (.int .i64 t1172)) (fun _ hk => hk.2) (.slice Ao23 t1173.length co23)) (fun _ hk => hk.2) (.int .i64 t1176)) (fun _ hk => hk.2) (.int .i64 t1177)) (fun _ hk => hk.2) (.int .i64 t1178)) (fun _ hk => hk.2) (.int .i64 t1179)) (fun _ hk => hk.2) (.slice Ao24 t1180.length co24)) (fun _ h_ => h_.1))) hb); have n3_ := Aside0.mk (Kd.R_below (by (with_reducible repeat (first | apply Kd.R_alloc | apply Kd.R_drewN | apply Kd.R_drew)); exact (Kd.R_mono (Kd.R_far (p := ⟨gb1183, 9, none⟩) (Kd.R_far (p := ⟨gb1183, 8, none⟩) (Kd.R_far (p := ⟨gb1183, 7, none⟩) (Kd.R_far (p := ⟨gb1183, 6, none⟩) (Kd.R_far (p := ⟨gb1183, 5, none⟩) (Kd.R_far (p := ⟨gb1183, 4, none⟩) (Kd.R_far (p := ⟨gb1183, 3, none⟩) (Kd.R_far (p := ⟨gb1183, 2, none⟩) (Kd.R_far (p := ⟨gb1183, 1, none⟩) (Kd.R_far (p := ⟨gb1183, 0, none⟩) (Kd.R_types HO1182.out BK1183.out (by decide)) (fun _ hk => hk.2) (.string t1169)) (fun _ hk => hk.2) (.string t1170)) (fun _ hk => hk.2) (.int .i64 t1171)) (fun _ hk => hk.2) (.int .i64 t1172)) (fun _ hk => hk.2) (.slice Ao23 t1173.length co23)) (fun _ hk => hk.2) (.int .i64 t1176)) (fun _ hk => hk.2) (.int .i64 t1177)) (fun _ hk => hk.2) (.int .i64 t1178)) (fun _ hk => hk.2) (.int .i64 t1179)) (fun _ hk => hk.2) (.slice Ao24 t1180.length co24)) (fun _ h_ => h_.1))) hb); have n4_ := Aside0.mk (blk_below (g := gb1152) (o := .cells #[.string a0_0, .string a0_1, .int .i64 a0_2, .int .i64 a0_3, .slice A0_4 l0_4.length c0_4, .int .i64 a0_5, .int .i64 a0_6, .int .i64 a0_7, .int .i64 a0_8, .slice A0_9 l0_9.length c0_9] 60 (0, 0)) (by (with_reducible repeat (first | refine blk_drewN ?_ _ | refine blk_drew ?_ | refine blk_alloc ?_ _)); refine blk_far ?_ NB1152_1183.out _; (with_reducible repeat (first | refine blk_drewN ?_ _ | refine blk_drew ?_ | refine blk_alloc ?_ _)); refine blk_far ?_ NB1152_1183.out _; (with_reducible repeat (first | refine blk_drewN ?_ _ | refine blk_drew ?_ | refine blk_alloc ?_ _)); refine blk_far ?_ NB1152_1183.out _; (with_reducible repeat (first | refine blk_drewN ?_ _ | refine blk_drew ?_ | refine blk_alloc ?_ _)); refine blk_far ?_ NB1152_1183.out _; (with_reducible repeat (first | refine blk_drewN ?_ _ | refine blk_drew ?_ | refine blk_alloc ?_ _)); refine blk_far ?_ NB1152_1183.out _; (with_reducible repeat (first | refine blk_drewN ?_ _ | refine blk_drew ?_ | refine blk_alloc ?_ _)); refine blk_far ?_ NB1152_1183.out _; (with_reducible repeat (first | refine blk_drewN ?_ _ | refine blk_drew ?_ | refine blk_alloc ?_ _)); refine blk_far ?_ NB1152_1183.out _; (with_reducible repeat (first | refine blk_drewN ?_ _ | refine blk_drew ?_ | refine blk_alloc ?_ _)); refine blk_far ?_ NB1152_1183.out _; (with_reducible repeat (first | refine blk_drewN ?_ _ | refine blk_drew ?_ | refine blk_alloc ?_ _)); refine blk_far ?_ NB1152_1183.out _; (with_reducible repeat (first | refine blk_drewN ?_ _ | refine blk_drew ?_ | refine blk_alloc ?_ _)); refine blk_far ?_ NB1152_1183.out _; (with_reducible repeat (first | refine blk_drewN ?_ _ | refine blk_drew ?_ | refine blk_alloc ?_ _)); exact BK1152.out) hb); have n5_ := Aside0.mk (blk_below (g := gb1183) (o := .cells #[.string t1169, .string t1170, .int .i64 t1171, .int .i64 t1172, .slice Ao23 t1173.length co23, .int .i64 t1176, .int .i64 t1177, .int .i64 t1178, .int .i64 t1179, .slice Ao24 t1180.length co24] 65 (0, 0)) (by (with_reducible repeat (first | refine blk_drewN ?_ _ | refine blk_drew ?_ | refine blk_alloc ?_ _)); refine blk_put (cs := #[.string t1169, .string t1170, .int .i64 t1171, .int .i64 t1172, .slice Ao23 t1173.length co23, .int .i64 t1176, .int .i64 t1177, .int .i64 t1178, .int .i64 t1179, .slice none 0 0]) ?_ 9 _ rfl; (with_reducible repeat (first | refine blk_drewN ?_ _ | refine blk_drew ?_ | refine blk_alloc ?_ _)); refine blk_put (cs := #[.string t1169, .string t1170, .int .i64 t1171, .int .i64 t1172, .slice Ao23 t1173.length co23, .int .i64 t1176, .int .i64 t1177, .int .i64 t1178, .int .i64 0, .slice none 0 0]) ?_ 8 _ rfl; (with_reducible repeat (first | refine blk_drewN ?_ _ | refine blk_drew ?_ | refine blk_alloc ?_ _)); refine blk_put (cs := #[.string t1169, .string t1170, .int .i64 t1171, .int .i64 t1172, .slice Ao23 t1173.length co23, .int .i64 t1176, .int .i64 t1177, .int .i64 0, .int .i64 0, .slice none 0 0]) ?_ 7 _ rfl; (with_reducible repeat (first | refine blk_drewN ?_ _ | refine blk_drew ?_ | refine blk_alloc ?_ _)); refine blk_put (cs := #[.string t1169, .string t1170, .int .i64 t1171, .int .i64 t1172, .slice Ao23 t1173.length co23, .int .i64 t1176, .int .i64 0, .int .i64 0, .int .i64 0, .slice none 0 0]) ?_ 6 _ rfl; (with_reducible repeat (first | refine blk_drewN ?_ _ | refine blk_drew ?_ | refine blk_alloc ?_ _)); refine blk_put (cs := #[.string t1169, .string t1170, .int .i64 t1171, .int .i64 t1172, .slice Ao23 t1173.length co23, .int .i64 0, .int .i64 0, .int .i64 0, .int .i64 0, .slice none 0 0]) ?_ 5 _ rfl; (with_reducible repeat (first | refine blk_drewN ?_ _ | refine blk_drew ?_ | refine blk_alloc ?_ _)); refine blk_put (cs := #[.string t1169, .string t1170, .int .i64 t1171, .int .i64 t1172, .slice none 0 0, .int .i64 0, .int .i64 0, .int .i64 0, .int .i64 0, .slice none 0 0]) ?_ 4 _ rfl; (with_reducible repeat (first | refine blk_drewN ?_ _ | refine blk_drew ?_ | refine blk_alloc ?_ _)); refine blk_put (cs := #[.string t1169, .string t1170, .int .i64 t1171, .int .i64 0, .slice none 0 0, .int .i64 0, .int .i64 0, .int .i64 0, .int .i64 0, .slice none 0 0]) ?_ 3 _ rfl; (with_reducible repeat (first | refine blk_drewN ?_ _ | refine blk_drew ?_ | refine blk_alloc ?_ _)); refine blk_put (cs := #[.string t1169, .string t1170, .int .i64 0, .int .i64 0, .slice none 0 0, .int .i64 0, .int .i64 0, .int .i64 0, .int .i64 0, .slice none 0 0]) ?_ 2 _ rfl; (with_reducible repeat (first | refine blk_drewN ?_ _ | refine blk_drew ?_ | refine blk_alloc ?_ _)); refine blk_put (cs := #[.string t1169, .string (⟨#[]⟩ : ByteArray), .int .i64 0, .int .i64 0, .slice none 0 0, .int .i64 0, .int .i64 0, .int .i64 0, .int .i64 0, .slice none 0 0]) ?_ 1 _ rfl; (with_reducible repeat (first | refine blk_drewN ?_ _ | refine blk_drew ?_ | refine blk_alloc ?_ _)); refine blk_put (cs := #[.string (⟨#[]⟩ : ByteArray), .string (⟨#[]⟩ : ByteArray), .int .i64 0, .int .i64 0, .slice none 0 0, .int .i64 0, .int .i64 0, .int .i64 0, .int .i64 0, .slice none 0 0]) ?_ 0 _ rfl; (with_reducible repeat (first | refine blk_drewN ?_ _ | refine blk_drew ?_ | refine blk_alloc ?_ _)); exact BK1183.out) hb); have n6_ := Aside0.mk (below_step (by repeat (first | (with_reducible first | exact HB.out | apply below_alloc | apply pw_below_drewN | apply below_drew1 | refine below_set ?_ GE1152.out | refine below_set ?_ GE1183.out) | exact HB.out)) hb); clear HO1160; clear HO1167; clear HO1175; clear HO1182; clear BK1152; clear BK1183; clear HB; have HO1160 := n0_; have HO1167 := n1_; have HO1175 := n2_; have HO1182 := n3_; have BK1152 := n4_; have BK1183 := n5_; have HB := n6_; clear n0_ n1_ n2_ n3_ n4_ n5_ n6_; (try clear hb); (try clear hb2); (try clear hk); (try clear hi)))
    (try simp only [Act.put, List.setIfInBounds_toArray, List.set_cons_zero, List.set_cons_succ])
    have H := HC12.out
    clear HC12
    by_cases c26 : (t1184 != t1168) = true
    · rw [if_pos c26] at H
      have c26b0 : (t1184 != t1168) = true := c26
      (try (have c26b1 : decide (t1184 = t1168) = false := by simpa using c26))
      (try (have c26b2 : (t1184 == t1168) = false := by simpa using c26))
      (try (have c26b3 : ¬ (t1184 = t1168) := by simpa using c26))
      clear c26
      (first | rw [c26b0] | rw [c26b1] | rw [c26b2] | rw [c26b3] | (simp only [i64_w, i32_w]; rw [c26b0]) | skip)
      obtain rfl := Option.some.inj H
      go_wp2
      go_ret
      exact ⟨by first | rfl | (simp [errW_none, errW_some] <;> rfl) | (simp [*, errW_none, errW_some] <;> rfl), by repeat (first | (with_reducible first | exact HB.out | apply below_alloc | apply pw_below_drewN | apply below_drew1 | refine below_set ?_ GE1152.out | refine below_set ?_ GE1183.out) | exact HB.out)⟩
    · rw [if_neg c26] at H
      have c26b0 : (t1184 != t1168) = false := by simpa using c26
      (try (have c26b1 : decide (t1184 = t1168) = true := by simpa using c26))
      (try (have c26b2 : (t1184 == t1168) = true := by simpa using c26))
      clear c26
      (first | rw [c26b0] | rw [c26b1] | rw [c26b2] | rw [c26b3] | (simp only [i64_w, i32_w]; rw [c26b0]) | skip)
      replace H := Option.bind_eq_some_iff.mp H
      obtain ⟨⟨t1185, t1186, t1187, t1188, t1189, t1192, t1193, t1194, t1195, t1196⟩, A270, H⟩ := H
      replace H : ((laws_eqOrder.f k t1169 t1170 t1171 t1172 t1173 t1176 t1177 t1178 t1179 t1180 t1185 t1186 t1187 t1188 t1189 t1192 t1193 t1194 t1195 t1196).bind fun t1199 => (if t1199 = true then (some true) else (some false))) = some r := H
      have A27 := Aside0.mk A270
      clear A270
      replace H := Option.bind_eq_some_iff.mp H
      obtain ⟨t1199, A280, H⟩ := H
      replace H : (if t1199 = true then (some true) else (some false)) = some r := H
      have A28 := Aside0.mk A280
      clear A280
      have HC29 := Aside0.mk H
      clear H
      try go_wp2
      have n0_ := Aside0.mk (Kd.R_drew HO1160.out)
      have n1_ := Aside0.mk (Kd.R_drew HO1167.out)
      have n2_ := Aside0.mk (Kd.R_drew HO1175.out)
      have n3_ := Aside0.mk (Kd.R_drew HO1182.out)
      have n4_ := Aside0.mk (blk_drew BK1152.out)
      have n5_ := Aside0.mk (blk_drew BK1183.out)
      have n6_ := Aside0.mk (below_drew1 HB.out)
      clear HO1160
      clear HO1167
      clear HO1175
      clear HO1182
      clear BK1152
      clear BK1183
      clear HB
      have HO1160 := n0_
      have HO1167 := n1_
      have HO1175 := n2_
      have HO1182 := n3_
      have BK1152 := n4_
      have BK1183 := n5_
      have HB := n6_
      clear n0_ n1_ n2_ n3_ n4_ n5_ n6_
      refine start_ (n := 5) (S := fun w' => w'.cell? ⟨gb1183, 0, none⟩ = some (.string t1169) ∧ w'.cell? ⟨gb1183, 1, none⟩ = some (.string t1170) ∧ w'.cell? ⟨gb1183, 2, none⟩ = some (.int .i64 t1171) ∧ w'.cell? ⟨gb1183, 3, none⟩ = some (.int .i64 t1172) ∧ w'.cell? ⟨gb1183, 4, none⟩ = some (.slice Ao23 t1173.length co23) ∧ w'.cell? ⟨gb1183, 5, none⟩ = some (.int .i64 t1176) ∧ w'.cell? ⟨gb1183, 6, none⟩ = some (.int .i64 t1177) ∧ w'.cell? ⟨gb1183, 7, none⟩ = some (.int .i64 t1178) ∧ w'.cell? ⟨gb1183, 8, none⟩ = some (.int .i64 t1179) ∧ w'.cell? ⟨gb1183, 9, none⟩ = some (.slice Ao24 t1180.length co24) ∧ w'.cell? ⟨gb1152, 0, none⟩ = some (.string a0_0) ∧ w'.cell? ⟨gb1152, 1, none⟩ = some (.string a0_1) ∧ w'.cell? ⟨gb1152, 2, none⟩ = some (.int .i64 a0_2) ∧ w'.cell? ⟨gb1152, 3, none⟩ = some (.int .i64 a0_3) ∧ w'.cell? ⟨gb1152, 4, none⟩ = some (.slice A0_4 l0_4.length c0_4) ∧ w'.cell? ⟨gb1152, 5, none⟩ = some (.int .i64 a0_5) ∧ w'.cell? ⟨gb1152, 6, none⟩ = some (.int .i64 a0_6) ∧ w'.cell? ⟨gb1152, 7, none⟩ = some (.int .i64 a0_7) ∧ w'.cell? ⟨gb1152, 8, none⟩ = some (.int .i64 a0_8) ∧ w'.cell? ⟨gb1152, 9, none⟩ = some (.slice A0_9 l0_9.length c0_9)) (ds := []) #[false, false, false, false, false] (by kernel_rfl) rfl rfl ⟨(blk_cell BK1183.out 0).trans rfl, (blk_cell BK1183.out 1).trans rfl, (blk_cell BK1183.out 2).trans rfl, (blk_cell BK1183.out 3).trans rfl, (blk_cell BK1183.out 4).trans rfl, (blk_cell BK1183.out 5).trans rfl, (blk_cell BK1183.out 6).trans rfl, (blk_cell BK1183.out 7).trans rfl, (blk_cell BK1183.out 8).trans rfl, (blk_cell BK1183.out 9).trans rfl, (blk_cell BK1152.out 0).trans rfl, (blk_cell BK1152.out 1).trans rfl, (blk_cell BK1152.out 2).trans rfl, (blk_cell BK1152.out 3).trans rfl, (blk_cell BK1152.out 4).trans rfl, (blk_cell BK1152.out 5).trans rfl, (blk_cell BK1152.out 6).trans rfl, (blk_cell BK1152.out 7).trans rfl, (blk_cell BK1152.out 8).trans rfl, (blk_cell BK1152.out 9).trans rfl⟩ (fun hHeld => ?_)
      generalize w25.drew = w30 at HO1160 HO1167 HO1175 HO1182 BK1152 BK1183 HB hHeld ⊢
      refine take_ (i := 0) (N := some 22) (v := ?_) (a' := ?_) (bs_ 5 1) rfl rfl (by kernel_rfl) (fun _ _ _ h => h) (Or.inl ⟨by rfl, ?_⟩) hHeld ?_ ?_
      rotate_left
      · rintro w' ⟨s0, s1, s2, s3, s4, s5, s6, s7, s8, s9, s10, s11, s12, s13, s14, s15, s16, s17, s18, s19⟩
        go_simp
        (first | with_reducible rfl | rfl)
      rotate_left
      · simp only [Act.put, List.setIfInBounds_toArray, List.set_cons_zero, List.set_cons_succ, i64_w, i32_w]
        rfl
      refine take_ (i := 1) (N := some 23) (v := ?_) (a' := ?_) (bs_ 5 3) rfl rfl (by kernel_rfl) (fun _ _ _ h => h) (Or.inl ⟨by rfl, ?_⟩) hHeld ?_ ?_
      rotate_left
      · rintro w' ⟨s0, s1, s2, s3, s4, s5, s6, s7, s8, s9, s10, s11, s12, s13, s14, s15, s16, s17, s18, s19⟩
        go_simp
        (first | with_reducible rfl | rfl)
      rotate_left
      · simp only [Act.put, List.setIfInBounds_toArray, List.set_cons_zero, List.set_cons_succ, i64_w, i32_w]
        rfl
      refine one_ (i := 2) (N := some 24) (bs_ 5 7) rfl rfl (by kernel_rfl) (by decide) (fun K hK => ?_)
      refine goes_ Try.func61 (by kernel_rfl) rfl #[.agg #[.string a0_0, .string a0_1, .int .i64 a0_2, .int .i64 a0_3, .slice A0_4 l0_4.length c0_4, .int .i64 a0_5, .int .i64 a0_6, .int .i64 a0_7, .int .i64 a0_8, .slice A0_9 l0_9.length c0_9]] (by rfl) rfl rfl (by (try simp only [List.map_toArray, List.map_cons, List.map_nil]); first | done | rfl | (simp only [List.length_drop, List.length_take]; rfl)) ?_
      with_reducible refine (laws_toOrder.calls k a0_0 a0_1 a0_2 a0_3 _ _ l0_4 a0_5 a0_6 a0_7 a0_8 _ _ l0_9 t1185 t1186 t1187 t1188 t1189 t1192 t1193 t1194 t1195 t1196 _ ?side1 ?side2 ?side3 ?side4 A27.out).mono ?_
      (case side1 => repeat (first | exact (Kd.C_below HR0_4.out HB.out) | (with_reducible refine Kd.C_alloc ?_ _) | (with_reducible refine Kd.C_drewN ?_ _) | (with_reducible refine Kd.C_drew ?_)))
      (case side2 => exact HC0_4.out)
      (case side3 => repeat (first | exact (Kd.C_below HR0_9.out HB.out) | (with_reducible refine Kd.C_alloc ?_ _) | (with_reducible refine Kd.C_drewN ?_ _) | (with_reducible refine Kd.C_drew ?_)))
      (case side4 => exact HC0_9.out)
      rintro e w31 ⟨v1190, v1197, rfl, ho0, ho1, hb⟩
      refine ⟨_, rfl, ?_⟩
      have n0_ := Aside0.mk (Kd.R_elder' (by (with_reducible repeat (first | apply Kd.R_alloc | apply Kd.R_drewN | apply Kd.R_drew)); exact HO1160.out) (Kd.R_base ho0) hb)
      have n1_ := Aside0.mk (Kd.R_elder' (by (with_reducible repeat (first | apply Kd.R_alloc | apply Kd.R_drewN | apply Kd.R_drew)); exact HO1167.out) (Kd.R_base ho1) hb)
      have n2_ := Aside0.mk (Kd.R_elder' (by (with_reducible repeat (first | apply Kd.R_alloc | apply Kd.R_drewN | apply Kd.R_drew)); exact HO1175.out) (Kd.R_base ho0) hb)
      have n3_ := Aside0.mk (Kd.R_elder' (by (with_reducible repeat (first | apply Kd.R_alloc | apply Kd.R_drewN | apply Kd.R_drew)); exact HO1182.out) (Kd.R_base ho1) hb)
      have n4_ := Aside0.mk (Kd.R_lower (Kd.R_new' (Kd.R_new' ho0 (Kd.R_lt (by (with_reducible repeat (first | apply Kd.R_alloc | apply Kd.R_drewN | apply Kd.R_drew)); exact HO1160.out))) (Kd.R_lt (by (with_reducible repeat (first | apply Kd.R_alloc | apply Kd.R_drewN | apply Kd.R_drew)); exact HO1175.out))) (below_size (by repeat (first | (with_reducible first | exact HB.out | apply below_alloc | apply pw_below_drewN | apply below_drew1 | refine below_set ?_ GE1152.out | refine below_set ?_ GE1183.out) | exact HB.out))))
      have n5_ := Aside0.mk (Kd.R_lower (Kd.R_new' (Kd.R_new' ho1 (Kd.R_lt (by (with_reducible repeat (first | apply Kd.R_alloc | apply Kd.R_drewN | apply Kd.R_drew)); exact HO1167.out))) (Kd.R_lt (by (with_reducible repeat (first | apply Kd.R_alloc | apply Kd.R_drewN | apply Kd.R_drew)); exact HO1182.out))) (below_size (by repeat (first | (with_reducible first | exact HB.out | apply below_alloc | apply pw_below_drewN | apply below_drew1 | refine below_set ?_ GE1152.out | refine below_set ?_ GE1183.out) | exact HB.out))))
      have n6_ := Aside0.mk (blk_below (g := gb1152) (o := .cells #[.string a0_0, .string a0_1, .int .i64 a0_2, .int .i64 a0_3, .slice A0_4 l0_4.length c0_4, .int .i64 a0_5, .int .i64 a0_6, .int .i64 a0_7, .int .i64 a0_8, .slice A0_9 l0_9.length c0_9] 60 (0, 0)) (by (with_reducible repeat (first | refine blk_drewN ?_ _ | refine blk_drew ?_ | refine blk_alloc ?_ _)); exact BK1152.out) hb)
      have n7_ := Aside0.mk (blk_below (g := gb1183) (o := .cells #[.string t1169, .string t1170, .int .i64 t1171, .int .i64 t1172, .slice Ao23 t1173.length co23, .int .i64 t1176, .int .i64 t1177, .int .i64 t1178, .int .i64 t1179, .slice Ao24 t1180.length co24] 65 (0, 0)) (by (with_reducible repeat (first | refine blk_drewN ?_ _ | refine blk_drew ?_ | refine blk_alloc ?_ _)); exact BK1183.out) hb)
      have n8_ := Aside0.mk (below_step (by repeat (first | (with_reducible first | exact HB.out | apply below_alloc | apply pw_below_drewN | apply below_drew1 | refine below_set ?_ GE1152.out | refine below_set ?_ GE1183.out) | exact HB.out)) hb)
      clear HO1160
      clear HO1167
      clear HO1175
      clear HO1182
      clear BK1152
      clear BK1183
      clear HB
      have HO1160 := n0_
      have HO1167 := n1_
      have HO1175 := n2_
      have HO1182 := n3_
      have HO1191 := n4_
      have HO1198 := n5_
      have BK1152 := n6_
      have BK1183 := n7_
      have HB := n8_
      clear n0_ n1_ n2_ n3_ n4_ n5_ n6_ n7_ n8_
      (try clear hb)
      (try clear hb2)
      (try clear hk)
      (try clear hi)
      (try clear ho0)
      (try clear ho1)
      obtain ⟨Ao32, co32, eo32⟩ := Kd.R_slice HO1191.out
      (first | subst eo32 | (injection eo32 with f1_ f2_ f3_; have f4_ := f1_.symm; have f5_ := f3_.symm; clear f1_ f2_ f3_; subst f4_; subst f5_))
      obtain ⟨Ao33, co33, eo33⟩ := Kd.R_slice HO1198.out
      (first | subst eo33 | (injection eo33 with f1_ f2_ f3_; have f4_ := f1_.symm; have f5_ := f3_.symm; clear f1_ f2_ f3_; subst f4_; subst f5_))
      refine hK.out _ _ ⟨(blk_cell BK1183.out 0).trans rfl, (blk_cell BK1183.out 1).trans rfl, (blk_cell BK1183.out 2).trans rfl, (blk_cell BK1183.out 3).trans rfl, (blk_cell BK1183.out 4).trans rfl, (blk_cell BK1183.out 5).trans rfl, (blk_cell BK1183.out 6).trans rfl, (blk_cell BK1183.out 7).trans rfl, (blk_cell BK1183.out 8).trans rfl, (blk_cell BK1183.out 9).trans rfl, (blk_cell BK1152.out 0).trans rfl, (blk_cell BK1152.out 1).trans rfl, (blk_cell BK1152.out 2).trans rfl, (blk_cell BK1152.out 3).trans rfl, (blk_cell BK1152.out 4).trans rfl, (blk_cell BK1152.out 5).trans rfl, (blk_cell BK1152.out 6).trans rfl, (blk_cell BK1152.out 7).trans rfl, (blk_cell BK1152.out 8).trans rfl, (blk_cell BK1152.out 9).trans rfl⟩ (fun hHeld => ?_)
      clear hK K
      refine norm_ (a' := ?_) ?_ ?_
      rotate_left
      · show Act.put _ (some 24) _ = _
        simp only [Act.put, List.setIfInBounds_toArray, List.set_cons_zero, List.set_cons_succ, i64_w, i32_w]
        rfl
      refine one_ (i := 3) (N := some 25) (bs_ 5 15) rfl rfl (by kernel_rfl) (by decide) (fun K hK => ?_)
      refine goes_ Try.func63 (by kernel_rfl) rfl #[.agg #[.string t1169, .string t1170, .int .i64 t1171, .int .i64 t1172, .slice Ao23 t1173.length co23, .int .i64 t1176, .int .i64 t1177, .int .i64 t1178, .int .i64 t1179, .slice Ao24 t1180.length co24], .agg #[.string t1185, .string t1186, .int .i64 t1187, .int .i64 t1188, .slice Ao32 t1189.length co32, .int .i64 t1192, .int .i64 t1193, .int .i64 t1194, .int .i64 t1195, .slice Ao33 t1196.length co33]] (by rfl) rfl rfl (by (try simp only [List.map_toArray, List.map_cons, List.map_nil]); first | done | rfl | (simp only [List.length_drop, List.length_take]; rfl)) ?_
      with_reducible refine (laws_eqOrder.calls k t1169 t1170 t1171 t1172 _ _ t1173 t1176 t1177 t1178 t1179 _ _ t1180 t1185 t1186 t1187 t1188 _ _ t1189 t1192 t1193 t1194 t1195 _ _ t1196 t1199 _ ?side1 ?side2 ?side3 ?side4 ?side5 ?side6 ?side7 ?side8 A28.out).mono ?_
      (case side1 => repeat (first | exact (Kd.R_reads' HO1175.out).2.2 | (with_reducible refine Kd.C_alloc ?_ _) | (with_reducible refine Kd.C_drewN ?_ _) | (with_reducible refine Kd.C_drew ?_)))
      (case side2 => exact (Kd.R_reads' HO1175.out).2.1)
      (case side3 => repeat (first | exact (Kd.R_reads' HO1182.out).2.2 | (with_reducible refine Kd.C_alloc ?_ _) | (with_reducible refine Kd.C_drewN ?_ _) | (with_reducible refine Kd.C_drew ?_)))
      (case side4 => exact (Kd.R_reads' HO1182.out).2.1)
      (case side5 => repeat (first | exact (Kd.R_reads' HO1191.out).2.2 | (with_reducible refine Kd.C_alloc ?_ _) | (with_reducible refine Kd.C_drewN ?_ _) | (with_reducible refine Kd.C_drew ?_)))
      (case side6 => exact (Kd.R_reads' HO1191.out).2.1)
      (case side7 => repeat (first | exact (Kd.R_reads' HO1198.out).2.2 | (with_reducible refine Kd.C_alloc ?_ _) | (with_reducible refine Kd.C_drewN ?_ _) | (with_reducible refine Kd.C_drew ?_)))
      (case side8 => exact (Kd.R_reads' HO1198.out).2.1)
      rintro e w34 ⟨rfl, hb⟩
      refine ⟨_, rfl, ?_⟩
      have n0_ := Aside0.mk (Kd.R_below (by (with_reducible repeat (first | apply Kd.R_alloc | apply Kd.R_drewN | apply Kd.R_drew)); exact HO1160.out) hb)
      have n1_ := Aside0.mk (Kd.R_below (by (with_reducible repeat (first | apply Kd.R_alloc | apply Kd.R_drewN | apply Kd.R_drew)); exact HO1167.out) hb)
      have n2_ := Aside0.mk (Kd.R_below (by (with_reducible repeat (first | apply Kd.R_alloc | apply Kd.R_drewN | apply Kd.R_drew)); exact HO1175.out) hb)
      have n3_ := Aside0.mk (Kd.R_below (by (with_reducible repeat (first | apply Kd.R_alloc | apply Kd.R_drewN | apply Kd.R_drew)); exact HO1182.out) hb)
      have n4_ := Aside0.mk (Kd.R_below (by (with_reducible repeat (first | apply Kd.R_alloc | apply Kd.R_drewN | apply Kd.R_drew)); exact HO1191.out) hb)
      have n5_ := Aside0.mk (Kd.R_below (by (with_reducible repeat (first | apply Kd.R_alloc | apply Kd.R_drewN | apply Kd.R_drew)); exact HO1198.out) hb)
      have n6_ := Aside0.mk (blk_below (g := gb1152) (o := .cells #[.string a0_0, .string a0_1, .int .i64 a0_2, .int .i64 a0_3, .slice A0_4 l0_4.length c0_4, .int .i64 a0_5, .int .i64 a0_6, .int .i64 a0_7, .int .i64 a0_8, .slice A0_9 l0_9.length c0_9] 60 (0, 0)) (by (with_reducible repeat (first | refine blk_drewN ?_ _ | refine blk_drew ?_ | refine blk_alloc ?_ _)); exact BK1152.out) hb)
      have n7_ := Aside0.mk (blk_below (g := gb1183) (o := .cells #[.string t1169, .string t1170, .int .i64 t1171, .int .i64 t1172, .slice Ao23 t1173.length co23, .int .i64 t1176, .int .i64 t1177, .int .i64 t1178, .int .i64 t1179, .slice Ao24 t1180.length co24] 65 (0, 0)) (by (with_reducible repeat (first | refine blk_drewN ?_ _ | refine blk_drew ?_ | refine blk_alloc ?_ _)); exact BK1183.out) hb)
      have n8_ := Aside0.mk (below_step (by repeat (first | (with_reducible first | exact HB.out | apply below_alloc | apply pw_below_drewN | apply below_drew1 | refine below_set ?_ GE1152.out | refine below_set ?_ GE1183.out) | exact HB.out)) hb)
      clear HO1160
      clear HO1167
      clear HO1175
      clear HO1182
      clear HO1191
      clear HO1198
      clear BK1152
      clear BK1183
      clear HB
      have HO1160 := n0_
      have HO1167 := n1_
      have HO1175 := n2_
      have HO1182 := n3_
      have HO1191 := n4_
      have HO1198 := n5_
      have BK1152 := n6_
      have BK1183 := n7_
      have HB := n8_
      clear n0_ n1_ n2_ n3_ n4_ n5_ n6_ n7_ n8_
      (try clear hb)
      (try clear hb2)
      (try clear hk)
      (try clear hi)
      refine hK.out _ _ ⟨(blk_cell BK1183.out 0).trans rfl, (blk_cell BK1183.out 1).trans rfl, (blk_cell BK1183.out 2).trans rfl, (blk_cell BK1183.out 3).trans rfl, (blk_cell BK1183.out 4).trans rfl, (blk_cell BK1183.out 5).trans rfl, (blk_cell BK1183.out 6).trans rfl, (blk_cell BK1183.out 7).trans rfl, (blk_cell BK1183.out 8).trans rfl, (blk_cell BK1183.out 9).trans rfl, (blk_cell BK1152.out 0).trans rfl, (blk_cell BK1152.out 1).trans rfl, (blk_cell BK1152.out 2).trans rfl, (blk_cell BK1152.out 3).trans rfl, (blk_cell BK1152.out 4).trans rfl, (blk_cell BK1152.out 5).trans rfl, (blk_cell BK1152.out 6).trans rfl, (blk_cell BK1152.out 7).trans rfl, (blk_cell BK1152.out 8).trans rfl, (blk_cell BK1152.out 9).trans rfl⟩ (fun hHeld => ?_)
      clear hK K
      refine norm_ (a' := ?_) ?_ ?_
      rotate_left
      · show Act.put _ (some 25) _ = _
        simp only [Act.put, List.setIfInBounds_toArray, List.set_cons_zero, List.set_cons_succ, i64_w, i32_w]
        rfl
      refine pure_ (i := 4) (N := some 26) (v := _) (a' := _) (bs_ 5 31) rfl rfl (by kernel_rfl) (fun _ _ _ h => h) (Or.inl ⟨by rfl, by intro w'; go_simp; first | with_reducible rfl | rfl⟩) (by simp only [Act.put, List.setIfInBounds_toArray, List.set_cons_zero, List.set_cons_succ, i64_w, i32_w]; rfl) ?_
      refine done_ (by kernel_rfl) ?_
      go_upto_if 26 with (fail)
      have H := HC29.out
      clear HC29
      by_cases c35 : t1199 = true
      · subst c35
        have H1 : (some true) = some r := by rw [if_pos rfl] at H; exact H
        clear H
        have H := H1
        clear H1
        obtain rfl := Option.some.inj H
        go_wp2
        go_ret
        exact ⟨by first | rfl | (simp [errW_none, errW_some] <;> rfl) | (simp [*, errW_none, errW_some] <;> rfl), by repeat (first | (with_reducible first | exact HB.out | apply below_alloc | apply pw_below_drewN | apply below_drew1 | refine below_set ?_ GE1152.out | refine below_set ?_ GE1183.out) | exact HB.out)⟩
      · replace c35 := Bool.eq_false_iff.mpr c35
        subst c35
        have H1 : (some false) = some r := by rw [if_neg (show ¬ (false = true) by decide)] at H; exact H
        clear H
        have H := H1
        clear H1
        obtain rfl := Option.some.inj H
        go_wp2
        go_ret
        exact ⟨by first | rfl | (simp [errW_none, errW_some] <;> rfl) | (simp [*, errW_none, errW_some] <;> rfl), by repeat (first | (with_reducible first | exact HB.out | apply below_alloc | apply pw_below_drewN | apply below_drew1 | refine below_set ?_ GE1152.out | refine below_set ?_ GE1183.out) | exact HB.out)⟩

end Go.Proofs.Ytjkanclhlnojhaa.P
