-- Made by drive.py (a program of this session) over the kit's print; not written line by line by a hand.
import Derived.Test.YtnbnpgjgibcmpaaP0
import Derived.Test.YtnbnpgjgibcmpaaP_laws_eqStringS
import Derived.Test.YtnbnpgjgibcmpaaP_laws_szStringS
import Derived.Test.YtnbnpgjgibcmpaaP_spec_l5Letter
namespace Go.Proofs.Ytnbnpgjgibcmpaa.P
open Go.RowKit Go.Proofs.YtnbnpgjgibcmpaaW.PrintWords Go.Proofs.YtnbnpgjgibcmpaaW.PrintLast Go.Proofs.YtnbnpgjgibcmpaaW.PrintMore
attribute [local go_sem] max2_int min2_int max_two min_two max_three min_three max_four min_four   -- for this text's walks alone
set_option linter.unusedVariables false
set_option linter.unusedSimpArgs false

/-! ### laws_FnExactInline: function 16 -/
def laws_FnExactInline.f (k : Nat) (a0_0 : Int) (a0_1 : Int) (a0_2 : ByteArray) (l0_3 : List ByteArray) (l0_4 : List (S36)) : Option (Bool) := (laws_szNode.f k a0_0 a0_1 a0_2 l0_3 l0_4 1048576).bind fun t1301 => (if t1301 < 0 then (some true) else ((laws_toNode.f k a0_0 a0_1 a0_2 l0_3 l0_4).bind fun bt1302 => ((spec_Inline.f k bt1302.1 bt1302.2.1 bt1302.2.2.1 bt1302.2.2.2.1 bt1302.2.2.2.2).bind fun t1311 => ((laws_toNode.f k a0_0 a0_1 a0_2 l0_3 l0_4).bind fun bt1312 => ((impl_Inline.f k bt1312.1 bt1312.2.1 bt1312.2.2.1 bt1312.2.2.2.1 bt1312.2.2.2.2).bind fun t1322 => (if t1322.toList = t1311.toList then ((laws_toNode.f k a0_0 a0_1 a0_2 l0_3 l0_4).bind fun bt1323 => ((laws_eqNode.f k bt1312.1 bt1312.2.1 bt1312.2.2.1 bt1312.2.2.2.1 bt1312.2.2.2.2 bt1323.1 bt1323.2.1 bt1323.2.2.1 bt1323.2.2.2.1 bt1323.2.2.2.2).bind fun t1332 => (if t1332 = true then (some true) else (some false)))) else (some false)))))))
theorem laws_FnExactInline.mono : ∀ a0 a1 a2 a3 a4 k, LeO (laws_FnExactInline.f k a0 a1 a2 a3 a4) (laws_FnExactInline.f (k + 1) a0 a1 a2 a3 a4) := by
  intro a0 a1 a2 a3 a4 k
  unfold laws_FnExactInline.f
  repeat' first
      | (with_reducible exact impl_Inline.mono _ _ _ _ _ _)
      | (with_reducible exact laws_eqNode.mono _ _ _ _ _ _ _ _ _ _ _)
      | (with_reducible exact laws_szNode.mono _ _ _ _ _ _ _)
      | (with_reducible exact laws_toNode.mono _ _ _ _ _ _)
      | (with_reducible exact spec_Inline.mono _ _ _ _ _ _)
      | (with_reducible exact LeO.refl _)
      | (with_reducible exact LeO.none _)
      | (with_reducible refine LeO.ite ?_ ?_)
      | (with_reducible refine LeO.bind ?_ (fun _ => ?_))
      | exact impl_Inline.mono _ _ _ _ _ _
      | exact laws_eqNode.mono _ _ _ _ _ _ _ _ _ _ _
      | exact laws_szNode.mono _ _ _ _ _ _ _
      | exact laws_toNode.mono _ _ _ _ _ _
      | exact spec_Inline.mono _ _ _ _ _ _
      | exact LeO.none _
      | refine LeO.ite ?_ ?_
      | refine LeO.bind ?_ (fun _ => ?_)
set_option maxHeartbeats 8000000 in
set_option maxRecDepth 100000 in
theorem laws_FnExactInline.calls (k : Nat) (a0_0 : Int) (a0_1 : Int) (a0_2 : ByteArray) (A0_3 : Option Addr) (c0_3 : Nat) (l0_3 : List ByteArray) (A0_4 : Option Addr) (c0_4 : Nat) (l0_4 : List (S36)) (r : Bool) (w : World) (hr0_3 : Kd.C Kd.string w A0_3 l0_3.length l0_3) (hc0_3 : l0_3.length ≤ c0_3) (hr0_4 : Kd.C k36 w A0_4 l0_4.length l0_4) (hc0_4 : l0_4.length ≤ c0_4) (h : laws_FnExactInline.f k a0_0 a0_1 a0_2 l0_3 l0_4 = some r) :
    Calls Try.prog 16 #[.agg #[.int .i64 a0_0, .int .i64 a0_1, .string a0_2, .slice A0_3 l0_3.length c0_3, .slice A0_4 l0_4.length c0_4]] w fun e w' => e = .returned (.bool r) ∧ Below w.heap.size w w' := by
  have hu36 := Try.underlying36
  have hu25 := Try.underlying25
  have HR0_3 := Aside0.mk hr0_3
  have HC0_3 := Aside0.mk hc0_3
  clear hr0_3 hc0_3
  have HR0_4 := Aside0.mk hr0_4
  have HC0_4 := Aside0.mk hc0_4
  clear hr0_4 hc0_4
  have HB := Aside0.mk (Below.refl w.heap.size w)
  have H : ((laws_szNode.f k a0_0 a0_1 a0_2 l0_3 l0_4 1048576).bind fun t1301 => (if t1301 < 0 then (some true) else ((laws_toNode.f k a0_0 a0_1 a0_2 l0_3 l0_4).bind fun bt1302 => ((spec_Inline.f k bt1302.1 bt1302.2.1 bt1302.2.2.1 bt1302.2.2.2.1 bt1302.2.2.2.2).bind fun t1311 => ((laws_toNode.f k a0_0 a0_1 a0_2 l0_3 l0_4).bind fun bt1312 => ((impl_Inline.f k bt1312.1 bt1312.2.1 bt1312.2.2.1 bt1312.2.2.2.1 bt1312.2.2.2.2).bind fun t1322 => (if t1322.toList = t1311.toList then ((laws_toNode.f k a0_0 a0_1 a0_2 l0_3 l0_4).bind fun bt1323 => ((laws_eqNode.f k bt1312.1 bt1312.2.1 bt1312.2.2.1 bt1312.2.2.2.1 bt1312.2.2.2.2 bt1323.1 bt1323.2.1 bt1323.2.2.1 bt1323.2.2.2.1 bt1323.2.2.2.2).bind fun t1332 => (if t1332 = true then (some true) else (some false)))) else (some false)))))))) = some r := h
  clear h
  replace H := Option.bind_eq_some_iff.mp H
  obtain ⟨t1301, A20, H⟩ := H
  replace H : (if t1301 < 0 then (some true) else ((laws_toNode.f k a0_0 a0_1 a0_2 l0_3 l0_4).bind fun bt1302 => ((spec_Inline.f k bt1302.1 bt1302.2.1 bt1302.2.2.1 bt1302.2.2.2.1 bt1302.2.2.2.2).bind fun t1311 => ((laws_toNode.f k a0_0 a0_1 a0_2 l0_3 l0_4).bind fun bt1312 => ((impl_Inline.f k bt1312.1 bt1312.2.1 bt1312.2.2.1 bt1312.2.2.2.1 bt1312.2.2.2.2).bind fun t1322 => (if t1322.toList = t1311.toList then ((laws_toNode.f k a0_0 a0_1 a0_2 l0_3 l0_4).bind fun bt1323 => ((laws_eqNode.f k bt1312.1 bt1312.2.1 bt1312.2.2.1 bt1312.2.2.2.1 bt1312.2.2.2.2 bt1323.1 bt1323.2.1 bt1323.2.2.1 bt1323.2.2.2.1 bt1323.2.2.2.2).bind fun t1332 => (if t1332 = true then (some true) else (some false)))) else (some false))))))) = some r := H
  have A2 := Aside0.mk A20
  clear A20
  have HC3 := Aside0.mk H
  clear H
  go_enter Try.func16, Try.ntmps16
  go_upto_if 11 with (first | ((with_reducible refine gate_dst (N := 1) rfl ?_); refine box_event ?hg (N := 1) ?hd (cs := #[.int .i64 a0_0, .int .i64 a0_1, .string a0_2, .slice A0_3 l0_3.length c0_3, .slice A0_4 l0_4.length c0_4]) (t := 36) ?hr ?_; (case hd => rfl); (case hg => rfl); (case hr => first | (go_simp; done) | (go_simp; rfl)); intro gb1300 hg w4 hbox hb; have n0_ := Aside0.mk (below_step (by repeat (first | (with_reducible first | exact HB.out | apply below_alloc | apply pw_below_drewN | apply below_drew1) | exact HB.out)) hb); have n1_ := Aside0.mk (hbox); have n2_ := Aside0.mk ((by rw [hg]; exact (below_size (by repeat (first | (with_reducible first | exact HB.out | apply below_alloc | apply pw_below_drewN | apply below_drew1) | exact HB.out))) : w.heap.size ≤ gb1300)); have n3_ := Aside0.mk ((by rw [hg]; exact (below_size (by repeat (first | (with_reducible first | exact HB.out | apply below_alloc | apply pw_below_drewN | apply below_drew1) | exact HB.out))) : w.heap.size ≤ gb1300)); clear HB; have HB := n0_; have BK1300 := n1_; have GW1300 := n2_; have GE1300 := n3_; clear n0_ n1_ n2_ n3_; clear hb hbox hg; have hcz5_0 : w4.cell? ⟨gb1300, 0, none⟩ = some (.int .i64 a0_0) := (blk_cell BK1300.out 0).trans rfl; have hcz5_1 : w4.cell? ⟨gb1300, 1, none⟩ = some (.int .i64 a0_1) := (blk_cell BK1300.out 1).trans rfl; have hcz5_2 : w4.cell? ⟨gb1300, 2, none⟩ = some (.string a0_2) := (blk_cell BK1300.out 2).trans rfl; have hcz5_3 : w4.cell? ⟨gb1300, 3, none⟩ = some (.slice A0_3 l0_3.length c0_3) := (blk_cell BK1300.out 3).trans rfl; have hcz5_4 : w4.cell? ⟨gb1300, 4, none⟩ = some (.slice A0_4 l0_4.length c0_4) := (blk_cell BK1300.out 4).trans rfl; have hfz5_0 := blk_frozen BK1300.out 0; have hfz5_1 := blk_frozen BK1300.out 1; have hfz5_2 := blk_frozen BK1300.out 2; have hfz5_3 := blk_frozen BK1300.out 3; have hfz5_4 := blk_frozen BK1300.out 4) | ((with_reducible refine gate_callee (f := 28) rfl ?_); refine goesL_ (some 9) rfl rfl Try.func28 (by kernel_rfl) rfl #[.agg #[.int .i64 a0_0, .int .i64 a0_1, .string a0_2, .slice A0_3 l0_3.length c0_3, .slice A0_4 l0_4.length c0_4], .int .i64 1048576] rfl (by (try simp only [List.map_toArray, List.map_cons, List.map_nil]); first | done | rfl | (simp only [List.length_drop, List.length_take]; rfl)) ?_; (with_reducible refine (laws_szNode.calls k a0_0 a0_1 a0_2 _ _ l0_3 _ _ l0_4 1048576 t1301 _ ?side1 ?side2 ?side3 ?side4 A2.out).mono ?_); (case side1 => repeat (first | exact (Kd.C_below HR0_3.out HB.out) | (with_reducible refine Kd.C_alloc ?_ _) | (with_reducible refine Kd.C_drewN ?_ _) | (with_reducible refine Kd.C_drew ?_))); (case side2 => exact HC0_3.out); (case side3 => repeat (first | exact (Kd.C_below HR0_4.out HB.out) | (with_reducible refine Kd.C_alloc ?_ _) | (with_reducible refine Kd.C_drewN ?_ _) | (with_reducible refine Kd.C_drew ?_))); (case side4 => exact HC0_4.out); rintro e w6 ⟨rfl, hb⟩; refine ⟨_, rfl, ?_⟩; have n0_ := Aside0.mk (blk_below (g := gb1300) (o := .cells #[.int .i64 a0_0, .int .i64 a0_1, .string a0_2, .slice A0_3 l0_3.length c0_3, .slice A0_4 l0_4.length c0_4] 36 (0, 0)) (by (with_reducible repeat (first | refine blk_drewN ?_ _ | refine blk_drew ?_ | refine blk_alloc ?_ _)); exact BK1300.out) hb); have n1_ := Aside0.mk (below_step (by repeat (first | (with_reducible first | exact HB.out | apply below_alloc | apply pw_below_drewN | apply below_drew1 | refine below_set ?_ GE1300.out) | exact HB.out)) hb); clear BK1300; clear HB; have BK1300 := n0_; have HB := n1_; clear n0_ n1_; (try clear hb); (try clear hb2); (try clear hk); (try clear hi)))
  (try simp only [Act.put, List.setIfInBounds_toArray, List.set_cons_zero, List.set_cons_succ])
  have H := HC3.out
  clear HC3
  by_cases c7 : t1301 < 0
  · rw [if_pos c7] at H
    have c7b0 : decide (t1301 < 0) = true := decide_eq_true c7
    clear c7
    (first | rw [c7b0] | (simp only [i64_w, i32_w]; rw [c7b0]) | skip)
    obtain rfl := Option.some.inj H
    go_wp2
    go_ret
    exact ⟨by first | rfl | (simp [errW_none, errW_some] <;> rfl) | (simp [*, errW_none, errW_some] <;> rfl), by repeat (first | (with_reducible first | exact HB.out | apply below_alloc | apply pw_below_drewN | apply below_drew1 | refine below_set ?_ GE1300.out) | exact HB.out)⟩
  · rw [if_neg c7] at H
    have c7b0 : decide (t1301 < 0) = false := decide_eq_false c7
    clear c7
    (first | rw [c7b0] | (simp only [i64_w, i32_w]; rw [c7b0]) | skip)
    replace H := Option.bind_eq_some_iff.mp H
    obtain ⟨⟨t1302, t1303, t1304, t1305, t1308⟩, A80, H⟩ := H
    replace H : ((spec_Inline.f k t1302 t1303 t1304 t1305 t1308).bind fun t1311 => ((laws_toNode.f k a0_0 a0_1 a0_2 l0_3 l0_4).bind fun bt1312 => ((impl_Inline.f k bt1312.1 bt1312.2.1 bt1312.2.2.1 bt1312.2.2.2.1 bt1312.2.2.2.2).bind fun t1322 => (if t1322.toList = t1311.toList then ((laws_toNode.f k a0_0 a0_1 a0_2 l0_3 l0_4).bind fun bt1323 => ((laws_eqNode.f k bt1312.1 bt1312.2.1 bt1312.2.2.1 bt1312.2.2.2.1 bt1312.2.2.2.2 bt1323.1 bt1323.2.1 bt1323.2.2.1 bt1323.2.2.2.1 bt1323.2.2.2.2).bind fun t1332 => (if t1332 = true then (some true) else (some false)))) else (some false))))) = some r := H
    have A8 := Aside0.mk A80
    clear A80
    replace H := Option.bind_eq_some_iff.mp H
    obtain ⟨t1311, A90, H⟩ := H
    replace H : ((laws_toNode.f k a0_0 a0_1 a0_2 l0_3 l0_4).bind fun bt1312 => ((impl_Inline.f k bt1312.1 bt1312.2.1 bt1312.2.2.1 bt1312.2.2.2.1 bt1312.2.2.2.2).bind fun t1322 => (if t1322.toList = t1311.toList then ((laws_toNode.f k a0_0 a0_1 a0_2 l0_3 l0_4).bind fun bt1323 => ((laws_eqNode.f k bt1312.1 bt1312.2.1 bt1312.2.2.1 bt1312.2.2.2.1 bt1312.2.2.2.2 bt1323.1 bt1323.2.1 bt1323.2.2.1 bt1323.2.2.2.1 bt1323.2.2.2.2).bind fun t1332 => (if t1332 = true then (some true) else (some false)))) else (some false)))) = some r := H
    have A9 := Aside0.mk A90
    clear A90
    replace H := Option.bind_eq_some_iff.mp H
    obtain ⟨⟨t1312, t1313, t1314, t1315, t1318⟩, A100, H⟩ := H
    replace H : ((impl_Inline.f k t1312 t1313 t1314 t1315 t1318).bind fun t1322 => (if t1322.toList = t1311.toList then ((laws_toNode.f k a0_0 a0_1 a0_2 l0_3 l0_4).bind fun bt1323 => ((laws_eqNode.f k t1312 t1313 t1314 t1315 t1318 bt1323.1 bt1323.2.1 bt1323.2.2.1 bt1323.2.2.2.1 bt1323.2.2.2.2).bind fun t1332 => (if t1332 = true then (some true) else (some false)))) else (some false))) = some r := H
    have A10 := Aside0.mk A100
    clear A100
    replace H := Option.bind_eq_some_iff.mp H
    obtain ⟨t1322, A110, H⟩ := H
    replace H : (if t1322.toList = t1311.toList then ((laws_toNode.f k a0_0 a0_1 a0_2 l0_3 l0_4).bind fun bt1323 => ((laws_eqNode.f k t1312 t1313 t1314 t1315 t1318 bt1323.1 bt1323.2.1 bt1323.2.2.1 bt1323.2.2.2.1 bt1323.2.2.2.2).bind fun t1332 => (if t1332 = true then (some true) else (some false)))) else (some false)) = some r := H
    have A11 := Aside0.mk A110
    clear A110
    have HC12 := Aside0.mk H
    clear H
    have hcz13_0 : w6.cell? ⟨gb1300, 0, none⟩ = some (.int .i64 a0_0) := (blk_cell BK1300.out 0).trans rfl
    have hcz13_1 : w6.cell? ⟨gb1300, 1, none⟩ = some (.int .i64 a0_1) := (blk_cell BK1300.out 1).trans rfl
    have hcz13_2 : w6.cell? ⟨gb1300, 2, none⟩ = some (.string a0_2) := (blk_cell BK1300.out 2).trans rfl
    have hcz13_3 : w6.cell? ⟨gb1300, 3, none⟩ = some (.slice A0_3 l0_3.length c0_3) := (blk_cell BK1300.out 3).trans rfl
    have hcz13_4 : w6.cell? ⟨gb1300, 4, none⟩ = some (.slice A0_4 l0_4.length c0_4) := (blk_cell BK1300.out 4).trans rfl
    have hfz13_0 := blk_frozen BK1300.out 0
    have hfz13_1 := blk_frozen BK1300.out 1
    have hfz13_2 := blk_frozen BK1300.out 2
    have hfz13_3 := blk_frozen BK1300.out 3
    have hfz13_4 := blk_frozen BK1300.out 4
    go_upto_if 21 with (first | ((with_reducible refine gate_callee (f := 30) rfl ?_); refine goesL_ (some 13) rfl rfl Try.func30 (by kernel_rfl) rfl #[.agg #[.int .i64 a0_0, .int .i64 a0_1, .string a0_2, .slice A0_3 l0_3.length c0_3, .slice A0_4 l0_4.length c0_4]] rfl (by (try simp only [List.map_toArray, List.map_cons, List.map_nil]); first | done | rfl | (simp only [List.length_drop, List.length_take]; rfl)) ?_; (with_reducible refine (laws_toNode.calls k a0_0 a0_1 a0_2 _ _ l0_3 _ _ l0_4 t1302 t1303 t1304 t1305 t1308 _ ?side1 ?side2 ?side3 ?side4 A8.out).mono ?_); (case side1 => repeat (first | exact (Kd.C_below HR0_3.out HB.out) | (with_reducible refine Kd.C_alloc ?_ _) | (with_reducible refine Kd.C_drewN ?_ _) | (with_reducible refine Kd.C_drew ?_))); (case side2 => exact HC0_3.out); (case side3 => repeat (first | exact (Kd.C_below HR0_4.out HB.out) | (with_reducible refine Kd.C_alloc ?_ _) | (with_reducible refine Kd.C_drewN ?_ _) | (with_reducible refine Kd.C_drew ?_))); (case side4 => exact HC0_4.out); rintro e w14 ⟨v1306, v1309, rfl, ho0, ho1, hb⟩; refine ⟨_, rfl, ?_⟩; have n0_ := Aside0.mk (Kd.R_lower ho0 (below_size (by repeat (first | (with_reducible first | exact HB.out | apply below_alloc | apply pw_below_drewN | apply below_drew1 | refine below_set ?_ GE1300.out) | exact HB.out)))); have n1_ := Aside0.mk (Kd.R_lower ho1 (below_size (by repeat (first | (with_reducible first | exact HB.out | apply below_alloc | apply pw_below_drewN | apply below_drew1 | refine below_set ?_ GE1300.out) | exact HB.out)))); have n2_ := Aside0.mk (blk_below (g := gb1300) (o := .cells #[.int .i64 a0_0, .int .i64 a0_1, .string a0_2, .slice A0_3 l0_3.length c0_3, .slice A0_4 l0_4.length c0_4] 36 (0, 0)) (by (with_reducible repeat (first | refine blk_drewN ?_ _ | refine blk_drew ?_ | refine blk_alloc ?_ _)); exact BK1300.out) hb); have n3_ := Aside0.mk (below_step (by repeat (first | (with_reducible first | exact HB.out | apply below_alloc | apply pw_below_drewN | apply below_drew1 | refine below_set ?_ GE1300.out) | exact HB.out)) hb); clear BK1300; clear HB; have HO1307 := n0_; have HO1310 := n1_; have BK1300 := n2_; have HB := n3_; clear n0_ n1_ n2_ n3_; (try clear hb); (try clear hb2); (try clear hk); (try clear hi); (try clear ho0); (try clear ho1); obtain ⟨Ao15, co15, eo15⟩ := Kd.R_slice HO1307.out; subst eo15; obtain ⟨Ao16, co16, eo16⟩ := Kd.R_slice HO1310.out; subst eo16) | ((with_reducible refine gate_callee (f := 60) rfl ?_); refine goesL_ (some 14) rfl rfl Try.func60 (by kernel_rfl) rfl #[.agg #[.int .i64 t1302, .int .i64 t1303, .string t1304, .slice Ao15 t1305.length co15, .slice Ao16 t1308.length co16]] rfl (by (try simp only [List.map_toArray, List.map_cons, List.map_nil]); first | done | rfl | (simp only [List.length_drop, List.length_take]; rfl)) ?_; (with_reducible refine (spec_Inline.calls k t1302 t1303 t1304 _ _ t1305 _ _ t1308 t1311 _ ?side1 ?side2 ?side3 ?side4 A9.out).mono ?_); (case side1 => repeat (first | exact (Kd.R_reads' HO1307.out).2.2 | (with_reducible refine Kd.C_alloc ?_ _) | (with_reducible refine Kd.C_drewN ?_ _) | (with_reducible refine Kd.C_drew ?_))); (case side2 => exact (Kd.R_reads' HO1307.out).2.1); (case side3 => repeat (first | exact (Kd.R_reads' HO1310.out).2.2 | (with_reducible refine Kd.C_alloc ?_ _) | (with_reducible refine Kd.C_drewN ?_ _) | (with_reducible refine Kd.C_drew ?_))); (case side4 => exact (Kd.R_reads' HO1310.out).2.1); rintro e w17 ⟨rfl, hb⟩; refine ⟨_, rfl, ?_⟩; have n0_ := Aside0.mk (Kd.R_below (by (with_reducible repeat (first | apply Kd.R_alloc | apply Kd.R_drewN | apply Kd.R_drew)); exact HO1307.out) hb); have n1_ := Aside0.mk (Kd.R_below (by (with_reducible repeat (first | apply Kd.R_alloc | apply Kd.R_drewN | apply Kd.R_drew)); exact HO1310.out) hb); have n2_ := Aside0.mk (blk_below (g := gb1300) (o := .cells #[.int .i64 a0_0, .int .i64 a0_1, .string a0_2, .slice A0_3 l0_3.length c0_3, .slice A0_4 l0_4.length c0_4] 36 (0, 0)) (by (with_reducible repeat (first | refine blk_drewN ?_ _ | refine blk_drew ?_ | refine blk_alloc ?_ _)); exact BK1300.out) hb); have n3_ := Aside0.mk (below_step (by repeat (first | (with_reducible first | exact HB.out | apply below_alloc | apply pw_below_drewN | apply below_drew1 | refine below_set ?_ GE1300.out) | exact HB.out)) hb); clear HO1307; clear HO1310; clear BK1300; clear HB; have HO1307 := n0_; have HO1310 := n1_; have BK1300 := n2_; have HB := n3_; clear n0_ n1_ n2_ n3_; (try clear hb); (try clear hb2); (try clear hk); (try clear hi); have hcz18_0 : w17.cell? ⟨gb1300, 0, none⟩ = some (.int .i64 a0_0) := (blk_cell BK1300.out 0).trans rfl; have hcz18_1 : w17.cell? ⟨gb1300, 1, none⟩ = some (.int .i64 a0_1) := (blk_cell BK1300.out 1).trans rfl; have hcz18_2 : w17.cell? ⟨gb1300, 2, none⟩ = some (.string a0_2) := (blk_cell BK1300.out 2).trans rfl; have hcz18_3 : w17.cell? ⟨gb1300, 3, none⟩ = some (.slice A0_3 l0_3.length c0_3) := (blk_cell BK1300.out 3).trans rfl; have hcz18_4 : w17.cell? ⟨gb1300, 4, none⟩ = some (.slice A0_4 l0_4.length c0_4) := (blk_cell BK1300.out 4).trans rfl; have hfz18_0 := blk_frozen BK1300.out 0; have hfz18_1 := blk_frozen BK1300.out 1; have hfz18_2 := blk_frozen BK1300.out 2; have hfz18_3 := blk_frozen BK1300.out 3; have hfz18_4 := blk_frozen BK1300.out 4) | ((with_reducible refine gate_callee (f := 30) rfl ?_); refine goesL_ (some 16) rfl rfl Try.func30 (by kernel_rfl) rfl #[.agg #[.int .i64 a0_0, .int .i64 a0_1, .string a0_2, .slice A0_3 l0_3.length c0_3, .slice A0_4 l0_4.length c0_4]] rfl (by (try simp only [List.map_toArray, List.map_cons, List.map_nil]); first | done | rfl | (simp only [List.length_drop, List.length_take]; rfl)) ?_; (with_reducible refine (laws_toNode.calls k a0_0 a0_1 a0_2 _ _ l0_3 _ _ l0_4 t1312 t1313 t1314 t1315 t1318 _ ?side1 ?side2 ?side3 ?side4 A10.out).mono ?_); (case side1 => repeat (first | exact (Kd.C_below HR0_3.out HB.out) | (with_reducible refine Kd.C_alloc ?_ _) | (with_reducible refine Kd.C_drewN ?_ _) | (with_reducible refine Kd.C_drew ?_))); (case side2 => exact HC0_3.out); (case side3 => repeat (first | exact (Kd.C_below HR0_4.out HB.out) | (with_reducible refine Kd.C_alloc ?_ _) | (with_reducible refine Kd.C_drewN ?_ _) | (with_reducible refine Kd.C_drew ?_))); (case side4 => exact HC0_4.out); rintro e w19 ⟨v1316, v1319, rfl, ho0, ho1, hb⟩; refine ⟨_, rfl, ?_⟩; have n0_ := Aside0.mk (Kd.R_elder' (by (with_reducible repeat (first | apply Kd.R_alloc | apply Kd.R_drewN | apply Kd.R_drew)); exact HO1307.out) (Kd.R_base ho0) hb); have n1_ := Aside0.mk (Kd.R_mono (Kd.R_told (Kd.R_told (Kd.R_old (by (with_reducible repeat (first | apply Kd.R_alloc | apply Kd.R_drewN | apply Kd.R_drew)); exact HO1310.out) hb) (Kd.R_base ho0)) (Kd.R_base ho1)) (fun _ h_ => h_.1)); have n2_ := Aside0.mk (Kd.R_lower (Kd.R_new' ho0 (Kd.R_lt (by (with_reducible repeat (first | apply Kd.R_alloc | apply Kd.R_drewN | apply Kd.R_drew)); exact HO1307.out))) (below_size (by repeat (first | (with_reducible first | exact HB.out | apply below_alloc | apply pw_below_drewN | apply below_drew1 | refine below_set ?_ GE1300.out) | exact HB.out)))); have n3_ := Aside0.mk (Kd.R_lower (Kd.R_new' (Kd.R_new' ho1 (Kd.R_lt (by (with_reducible repeat (first | apply Kd.R_alloc | apply Kd.R_drewN | apply Kd.R_drew)); exact HO1307.out))) (Kd.R_lt (by (with_reducible repeat (first | apply Kd.R_alloc | apply Kd.R_drewN | apply Kd.R_drew)); exact HO1310.out))) (below_size (by repeat (first | (with_reducible first | exact HB.out | apply below_alloc | apply pw_below_drewN | apply below_drew1 | refine below_set ?_ GE1300.out) | exact HB.out)))); have n4_ := Aside0.mk (blk_below (g := gb1300) (o := .cells #[.int .i64 a0_0, .int .i64 a0_1, .string a0_2, .slice A0_3 l0_3.length c0_3, .slice A0_4 l0_4.length c0_4] 36 (0, 0)) (by (with_reducible repeat (first | refine blk_drewN ?_ _ | refine blk_drew ?_ | refine blk_alloc ?_ _)); exact BK1300.out) hb); have n5_ := Aside0.mk (below_step (by repeat (first | (with_reducible first | exact HB.out | apply below_alloc | apply pw_below_drewN | apply below_drew1 | refine below_set ?_ GE1300.out) | exact HB.out)) hb); clear HO1307; clear HO1310; clear BK1300; clear HB; have HO1307 := n0_; have HO1310 := n1_; have HO1317 := n2_; have HO1320 := n3_; have BK1300 := n4_; have HB := n5_; clear n0_ n1_ n2_ n3_ n4_ n5_; (try clear hb); (try clear hb2); (try clear hk); (try clear hi); (try clear ho0); (try clear ho1)) | ((with_reducible refine gate_dst (N := 5) rfl ?_); refine box_event ?hg (N := 5) ?hd (cs := #[.int .i64 0, .int .i64 0, .string (⟨#[]⟩ : ByteArray), .slice none 0 0, .slice none 0 0]) (t := 25) ?hr ?_; (case hd => rfl); (case hg => rfl); (case hr => first | (go_simp; done) | (go_simp; rfl)); intro gb1321 hg w20 hbox hb; have n0_ := Aside0.mk (Kd.R_below (by (with_reducible repeat (first | apply Kd.R_alloc | apply Kd.R_drewN | apply Kd.R_drew)); exact HO1307.out) hb); have n1_ := Aside0.mk (Kd.R_below (Kd.R_elderB (by (with_reducible repeat (first | apply Kd.R_alloc | apply Kd.R_drewN | apply Kd.R_drew)); exact HO1310.out) gb1321 (Nat.le_of_eq hg.symm)) hb); have n2_ := Aside0.mk (Kd.R_below (by (with_reducible repeat (first | apply Kd.R_alloc | apply Kd.R_drewN | apply Kd.R_drew)); exact HO1317.out) hb); have n3_ := Aside0.mk (Kd.R_below (Kd.R_elderB (by (with_reducible repeat (first | apply Kd.R_alloc | apply Kd.R_drewN | apply Kd.R_drew)); exact HO1320.out) gb1321 (Nat.le_of_eq hg.symm)) hb); have n4_ := Aside0.mk (blk_below (g := gb1300) (o := .cells #[.int .i64 a0_0, .int .i64 a0_1, .string a0_2, .slice A0_3 l0_3.length c0_3, .slice A0_4 l0_4.length c0_4] 36 (0, 0)) (by (with_reducible repeat (first | refine blk_drewN ?_ _ | refine blk_drew ?_ | refine blk_alloc ?_ _)); exact BK1300.out) hb); have n5_ := Aside0.mk (below_step (by repeat (first | (with_reducible first | exact HB.out | apply below_alloc | apply pw_below_drewN | apply below_drew1 | refine below_set ?_ GE1300.out) | exact HB.out)) hb); have n6_ := Aside0.mk (hbox); have n7_ := Aside0.mk ((by rw [hg]; exact (below_size (by repeat (first | (with_reducible first | exact HB.out | apply below_alloc | apply pw_below_drewN | apply below_drew1 | refine below_set ?_ GE1300.out) | exact HB.out))) : w.heap.size ≤ gb1321)); have n8_ := Aside0.mk ((by rw [hg]; exact (below_size (by repeat (first | (with_reducible first | exact HB.out | apply below_alloc | apply pw_below_drewN | apply below_drew1 | refine below_set ?_ GE1300.out) | exact HB.out))) : w.heap.size ≤ gb1321)); have n9_ := Aside0.mk ((by rw [hg]; exact Nat.ne_of_lt (blk_lt (g := gb1300) (o := .cells #[.int .i64 a0_0, .int .i64 a0_1, .string a0_2, .slice A0_3 l0_3.length c0_3, .slice A0_4 l0_4.length c0_4] 36 (0, 0)) (by (with_reducible repeat (first | refine blk_drewN ?_ _ | refine blk_drew ?_ | refine blk_alloc ?_ _)); exact BK1300.out)) : gb1300 ≠ gb1321)); have n10_ := Aside0.mk ((by rw [hg]; exact Nat.ne_of_gt (blk_lt (g := gb1300) (o := .cells #[.int .i64 a0_0, .int .i64 a0_1, .string a0_2, .slice A0_3 l0_3.length c0_3, .slice A0_4 l0_4.length c0_4] 36 (0, 0)) (by (with_reducible repeat (first | refine blk_drewN ?_ _ | refine blk_drew ?_ | refine blk_alloc ?_ _)); exact BK1300.out)) : gb1321 ≠ gb1300)); clear HO1307; clear HO1310; clear HO1317; clear HO1320; clear BK1300; clear HB; have HO1307 := n0_; have HO1310 := n1_; have HO1317 := n2_; have HO1320 := n3_; have BK1300 := n4_; have HB := n5_; have BK1321 := n6_; have GW1321 := n7_; have GE1321 := n8_; have NB1300_1321 := n9_; have NB1321_1300 := n10_; clear n0_ n1_ n2_ n3_ n4_ n5_ n6_ n7_ n8_ n9_ n10_; clear hb hbox hg; have hnb21 := NB1321_1300.out; have hnc21 := NB1300_1321.out; have hcz22_0 : w20.cell? ⟨gb1321, 0, none⟩ = some (.int .i64 0) := (blk_cell BK1321.out 0).trans rfl; have hcz22_1 : w20.cell? ⟨gb1321, 1, none⟩ = some (.int .i64 0) := (blk_cell BK1321.out 1).trans rfl; have hcz22_2 : w20.cell? ⟨gb1321, 2, none⟩ = some (.string (⟨#[]⟩ : ByteArray)) := (blk_cell BK1321.out 2).trans rfl; have hcz22_3 : w20.cell? ⟨gb1321, 3, none⟩ = some (.slice none 0 0) := (blk_cell BK1321.out 3).trans rfl; have hcz22_4 : w20.cell? ⟨gb1321, 4, none⟩ = some (.slice none 0 0) := (blk_cell BK1321.out 4).trans rfl; have hfz22_0 := blk_frozen BK1321.out 0; have hfz22_1 := blk_frozen BK1321.out 1; have hfz22_2 := blk_frozen BK1321.out 2; have hfz22_3 := blk_frozen BK1321.out 3; have hfz22_4 := blk_frozen BK1321.out 4; obtain ⟨Ao23, co23, eo23⟩ := Kd.R_slice HO1317.out; subst eo23; obtain ⟨Ao24, co24, eo24⟩ := Kd.R_slice HO1320.out; subst eo24) | ((with_reducible refine gate_callee (f := 61) rfl ?_); refine goesL_ (some 18) rfl rfl Try.func61 (by kernel_rfl) rfl #[.agg #[.int .i64 t1312, .int .i64 t1313, .string t1314, .slice Ao23 t1315.length co23, .slice Ao24 t1318.length co24]] rfl (by (try simp only [List.map_toArray, List.map_cons, List.map_nil]); first | done | rfl | (simp only [List.length_drop, List.length_take]; rfl)) ?_; (with_reducible refine (impl_Inline.calls k t1312 t1313 t1314 _ _ t1315 _ _ t1318 t1322 _ ?side1 ?side2 ?side3 ?side4 A11.out).mono ?_); (case side1 => refine (Kd.R_reads' (e := 9) (base := w.heap.size) (ok := fun k_ => (True ∧ some k_ ≠ (.slice Ao15 t1305.length co15 : Value).ownBlock)) (n := t1315.length) (c := co23) ?_).2.2; exact (by (with_reducible repeat (first | apply Kd.R_alloc | apply Kd.R_drewN | apply Kd.R_drew)); exact (Kd.R_mono (Kd.R_far (p := ⟨gb1321, 4, none⟩) (Kd.R_far (p := ⟨gb1321, 3, none⟩) (Kd.R_far (p := ⟨gb1321, 2, none⟩) (Kd.R_far (p := ⟨gb1321, 1, none⟩) (Kd.R_far (p := ⟨gb1321, 0, none⟩) (Kd.R_types HO1317.out BK1321.out (by decide)) (fun _ hk => hk.2) (.int .i64 t1312)) (fun _ hk => hk.2) (.int .i64 t1313)) (fun _ hk => hk.2) (.string t1314)) (fun _ hk => hk.2) (.slice Ao23 t1315.length co23)) (fun _ hk => hk.2) (.slice Ao24 t1318.length co24)) (fun _ h_ => h_.1)))); (case side2 => exact (Kd.R_reads' HO1317.out).2.1); (case side3 => refine (Kd.R_reads' (e := 25) (base := w.heap.size) (ok := fun k_ => (((some k_ ≠ (.slice Ao23 t1315.length co23 : Value).ownBlock ∧ some k_ ≠ (.slice Ao15 t1305.length co15 : Value).ownBlock) ∧ some k_ ≠ (.slice Ao16 t1308.length co16 : Value).ownBlock) ∧ k_ ≠ gb1321)) (n := t1318.length) (c := co24) ?_).2.2; exact (by (with_reducible repeat (first | apply Kd.R_alloc | apply Kd.R_drewN | apply Kd.R_drew)); exact (Kd.R_mono (Kd.R_far (p := ⟨gb1321, 4, none⟩) (Kd.R_far (p := ⟨gb1321, 3, none⟩) (Kd.R_far (p := ⟨gb1321, 2, none⟩) (Kd.R_far (p := ⟨gb1321, 1, none⟩) (Kd.R_far (p := ⟨gb1321, 0, none⟩) (Kd.R_mono HO1320.out (fun k_ hk => (⟨hk, hk.2⟩ : _ ∧ k_ ≠ gb1321))) (fun _ hk => hk.2) (.int .i64 t1312)) (fun _ hk => hk.2) (.int .i64 t1313)) (fun _ hk => hk.2) (.string t1314)) (fun _ hk => hk.2) (.slice Ao23 t1315.length co23)) (fun _ hk => hk.2) (.slice Ao24 t1318.length co24)) (fun _ h_ => h_.1)))); (case side4 => exact (Kd.R_reads' HO1320.out).2.1); rintro e w25 ⟨rfl, hb⟩; refine ⟨_, rfl, ?_⟩; have n0_ := Aside0.mk (Kd.R_below (by (with_reducible repeat (first | apply Kd.R_alloc | apply Kd.R_drewN | apply Kd.R_drew)); exact (Kd.R_mono (Kd.R_far (p := ⟨gb1321, 4, none⟩) (Kd.R_far (p := ⟨gb1321, 3, none⟩) (Kd.R_far (p := ⟨gb1321, 2, none⟩) (Kd.R_far (p := ⟨gb1321, 1, none⟩) (Kd.R_far (p := ⟨gb1321, 0, none⟩) (Kd.R_types HO1307.out BK1321.out (by decide)) (fun _ hk => hk.2) (.int .i64 t1312)) (fun _ hk => hk.2) (.int .i64 t1313)) (fun _ hk => hk.2) (.string t1314)) (fun _ hk => hk.2) (.slice Ao23 t1315.length co23)) (fun _ hk => hk.2) (.slice Ao24 t1318.length co24)) (fun _ h_ => h_.1))) hb); have n1_ := Aside0.mk (Kd.R_below (by (with_reducible repeat (first | apply Kd.R_alloc | apply Kd.R_drewN | apply Kd.R_drew)); exact (Kd.R_mono (Kd.R_far (p := ⟨gb1321, 4, none⟩) (Kd.R_far (p := ⟨gb1321, 3, none⟩) (Kd.R_far (p := ⟨gb1321, 2, none⟩) (Kd.R_far (p := ⟨gb1321, 1, none⟩) (Kd.R_far (p := ⟨gb1321, 0, none⟩) (Kd.R_mono HO1310.out (fun k_ hk => (⟨hk, hk.2⟩ : _ ∧ k_ ≠ gb1321))) (fun _ hk => hk.2) (.int .i64 t1312)) (fun _ hk => hk.2) (.int .i64 t1313)) (fun _ hk => hk.2) (.string t1314)) (fun _ hk => hk.2) (.slice Ao23 t1315.length co23)) (fun _ hk => hk.2) (.slice Ao24 t1318.length co24)) (fun _ h_ => h_.1))) hb); have n2_ := Aside0.mk (Kd.R_below (by (with_reducible repeat (first | apply Kd.R_alloc | apply Kd.R_drewN | apply Kd.R_drew)); exact (Kd.R_mono (Kd.R_far (p := ⟨gb1321, 4, none⟩) (Kd.R_far (p := ⟨gb1321, 3, none⟩) (Kd.R_far (p := ⟨gb1321, 2, none⟩) (Kd.R_far (p := ⟨gb1321, 1, none⟩) (Kd.R_far (p := ⟨gb1321, 0, none⟩) (Kd.R_types HO1317.out BK1321.out (by decide)) (fun _ hk => hk.2) (.int .i64 t1312)) (fun _ hk => hk.2) (.int .i64 t1313)) (fun _ hk => hk.2) (.string t1314)) (fun _ hk => hk.2) (.slice Ao23 t1315.length co23)) (fun _ hk => hk.2) (.slice Ao24 t1318.length co24)) (fun _ h_ => h_.1))) hb); have n3_ := Aside0.mk (Kd.R_below (by (with_reducible repeat (first | apply Kd.R_alloc | apply Kd.R_drewN | apply Kd.R_drew)); exact (Kd.R_mono (Kd.R_far (p := ⟨gb1321, 4, none⟩) (Kd.R_far (p := ⟨gb1321, 3, none⟩) (Kd.R_far (p := ⟨gb1321, 2, none⟩) (Kd.R_far (p := ⟨gb1321, 1, none⟩) (Kd.R_far (p := ⟨gb1321, 0, none⟩) (Kd.R_mono HO1320.out (fun k_ hk => (⟨hk, hk.2⟩ : _ ∧ k_ ≠ gb1321))) (fun _ hk => hk.2) (.int .i64 t1312)) (fun _ hk => hk.2) (.int .i64 t1313)) (fun _ hk => hk.2) (.string t1314)) (fun _ hk => hk.2) (.slice Ao23 t1315.length co23)) (fun _ hk => hk.2) (.slice Ao24 t1318.length co24)) (fun _ h_ => h_.1))) hb); have n4_ := Aside0.mk (blk_below (g := gb1300) (o := .cells #[.int .i64 a0_0, .int .i64 a0_1, .string a0_2, .slice A0_3 l0_3.length c0_3, .slice A0_4 l0_4.length c0_4] 36 (0, 0)) (by (with_reducible repeat (first | refine blk_drewN ?_ _ | refine blk_drew ?_ | refine blk_alloc ?_ _)); refine blk_far ?_ NB1300_1321.out _; (with_reducible repeat (first | refine blk_drewN ?_ _ | refine blk_drew ?_ | refine blk_alloc ?_ _)); refine blk_far ?_ NB1300_1321.out _; (with_reducible repeat (first | refine blk_drewN ?_ _ | refine blk_drew ?_ | refine blk_alloc ?_ _)); refine blk_far ?_ NB1300_1321.out _; (with_reducible repeat (first | refine blk_drewN ?_ _ | refine blk_drew ?_ | refine blk_alloc ?_ _)); refine blk_far ?_ NB1300_1321.out _; (with_reducible repeat (first | refine blk_drewN ?_ _ | refine blk_drew ?_ | refine blk_alloc ?_ _)); refine blk_far ?_ NB1300_1321.out _; (with_reducible repeat (first | refine blk_drewN ?_ _ | refine blk_drew ?_ | refine blk_alloc ?_ _)); exact BK1300.out) hb); have n5_ := Aside0.mk (blk_below (g := gb1321) (o := .cells #[.int .i64 t1312, .int .i64 t1313, .string t1314, .slice Ao23 t1315.length co23, .slice Ao24 t1318.length co24] 25 (0, 0)) (by (with_reducible repeat (first | refine blk_drewN ?_ _ | refine blk_drew ?_ | refine blk_alloc ?_ _)); refine blk_put (cs := #[.int .i64 t1312, .int .i64 t1313, .string t1314, .slice Ao23 t1315.length co23, .slice none 0 0]) ?_ 4 _ rfl; (with_reducible repeat (first | refine blk_drewN ?_ _ | refine blk_drew ?_ | refine blk_alloc ?_ _)); refine blk_put (cs := #[.int .i64 t1312, .int .i64 t1313, .string t1314, .slice none 0 0, .slice none 0 0]) ?_ 3 _ rfl; (with_reducible repeat (first | refine blk_drewN ?_ _ | refine blk_drew ?_ | refine blk_alloc ?_ _)); refine blk_put (cs := #[.int .i64 t1312, .int .i64 t1313, .string (⟨#[]⟩ : ByteArray), .slice none 0 0, .slice none 0 0]) ?_ 2 _ rfl; (with_reducible repeat (first | refine blk_drewN ?_ _ | refine blk_drew ?_ | refine blk_alloc ?_ _)); refine blk_put (cs := #[.int .i64 t1312, .int .i64 0, .string (⟨#[]⟩ : ByteArray), .slice none 0 0, .slice none 0 0]) ?_ 1 _ rfl; (with_reducible repeat (first | refine blk_drewN ?_ _ | refine blk_drew ?_ | refine blk_alloc ?_ _)); refine blk_put (cs := #[.int .i64 0, .int .i64 0, .string (⟨#[]⟩ : ByteArray), .slice none 0 0, .slice none 0 0]) ?_ 0 _ rfl; (with_reducible repeat (first | refine blk_drewN ?_ _ | refine blk_drew ?_ | refine blk_alloc ?_ _)); exact BK1321.out) hb); have n6_ := Aside0.mk (below_step (by repeat (first | (with_reducible first | exact HB.out | apply below_alloc | apply pw_below_drewN | apply below_drew1 | refine below_set ?_ GE1300.out | refine below_set ?_ GE1321.out) | exact HB.out)) hb); clear HO1307; clear HO1310; clear HO1317; clear HO1320; clear BK1300; clear BK1321; clear HB; have HO1307 := n0_; have HO1310 := n1_; have HO1317 := n2_; have HO1320 := n3_; have BK1300 := n4_; have BK1321 := n5_; have HB := n6_; clear n0_ n1_ n2_ n3_ n4_ n5_ n6_; (try clear hb); (try clear hb2); (try clear hk); (try clear hi)))
    (try simp only [Act.put, List.setIfInBounds_toArray, List.set_cons_zero, List.set_cons_succ])
    have H := HC12.out
    clear HC12
    by_cases c26 : t1322.toList = t1311.toList
    · rw [if_pos c26] at H
      have c26b0 : (t1322.toList == t1311.toList) = true := beq_iff_eq.mpr c26
      have c26b1 : (t1322.toList != t1311.toList) = false := bne_eq_false_iff_eq.mpr c26
      clear c26
      (first | rw [c26b0] | rw [c26b1] | (simp only [i64_w, i32_w]; rw [c26b0]) | skip)
      replace H := Option.bind_eq_some_iff.mp H
      obtain ⟨⟨t1323, t1324, t1325, t1326, t1329⟩, A270, H⟩ := H
      replace H : ((laws_eqNode.f k t1312 t1313 t1314 t1315 t1318 t1323 t1324 t1325 t1326 t1329).bind fun t1332 => (if t1332 = true then (some true) else (some false))) = some r := H
      have A27 := Aside0.mk A270
      clear A270
      replace H := Option.bind_eq_some_iff.mp H
      obtain ⟨t1332, A280, H⟩ := H
      replace H : (if t1332 = true then (some true) else (some false)) = some r := H
      have A28 := Aside0.mk A280
      clear A280
      have HC29 := Aside0.mk H
      clear H
      try go_wp2
      have n0_ := Aside0.mk (Kd.R_drew HO1307.out)
      have n1_ := Aside0.mk (Kd.R_drew HO1310.out)
      have n2_ := Aside0.mk (Kd.R_drew HO1317.out)
      have n3_ := Aside0.mk (Kd.R_drew HO1320.out)
      have n4_ := Aside0.mk (blk_drew BK1300.out)
      have n5_ := Aside0.mk (blk_drew BK1321.out)
      have n6_ := Aside0.mk (below_drew1 HB.out)
      clear HO1307
      clear HO1310
      clear HO1317
      clear HO1320
      clear BK1300
      clear BK1321
      clear HB
      have HO1307 := n0_
      have HO1310 := n1_
      have HO1317 := n2_
      have HO1320 := n3_
      have BK1300 := n4_
      have BK1321 := n5_
      have HB := n6_
      clear n0_ n1_ n2_ n3_ n4_ n5_ n6_
      refine start_ (n := 5) (S := fun w' => w'.cell? ⟨gb1321, 0, none⟩ = some (.int .i64 t1312) ∧ w'.cell? ⟨gb1321, 1, none⟩ = some (.int .i64 t1313) ∧ w'.cell? ⟨gb1321, 2, none⟩ = some (.string t1314) ∧ w'.cell? ⟨gb1321, 3, none⟩ = some (.slice Ao23 t1315.length co23) ∧ w'.cell? ⟨gb1321, 4, none⟩ = some (.slice Ao24 t1318.length co24) ∧ w'.cell? ⟨gb1300, 0, none⟩ = some (.int .i64 a0_0) ∧ w'.cell? ⟨gb1300, 1, none⟩ = some (.int .i64 a0_1) ∧ w'.cell? ⟨gb1300, 2, none⟩ = some (.string a0_2) ∧ w'.cell? ⟨gb1300, 3, none⟩ = some (.slice A0_3 l0_3.length c0_3) ∧ w'.cell? ⟨gb1300, 4, none⟩ = some (.slice A0_4 l0_4.length c0_4)) (ds := []) #[false, false, false, false, false] (by kernel_rfl) rfl rfl ⟨(blk_cell BK1321.out 0).trans rfl, (blk_cell BK1321.out 1).trans rfl, (blk_cell BK1321.out 2).trans rfl, (blk_cell BK1321.out 3).trans rfl, (blk_cell BK1321.out 4).trans rfl, (blk_cell BK1300.out 0).trans rfl, (blk_cell BK1300.out 1).trans rfl, (blk_cell BK1300.out 2).trans rfl, (blk_cell BK1300.out 3).trans rfl, (blk_cell BK1300.out 4).trans rfl⟩ (fun hHeld => ?_)
      generalize w25.drew = w30 at HO1307 HO1310 HO1317 HO1320 BK1300 BK1321 HB hHeld ⊢
      refine take_ (i := 0) (N := some 22) (v := ?_) (a' := ?_) (bs_ 5 1) rfl rfl (by kernel_rfl) (fun _ _ _ h => h) (Or.inl ⟨by rfl, ?_⟩) hHeld ?_ ?_
      rotate_left
      · rintro w' ⟨s0, s1, s2, s3, s4, s5, s6, s7, s8, s9⟩
        go_simp
        (first | with_reducible rfl | rfl)
      rotate_left
      · simp only [Act.put, List.setIfInBounds_toArray, List.set_cons_zero, List.set_cons_succ, i64_w, i32_w]
        rfl
      refine take_ (i := 1) (N := some 23) (v := ?_) (a' := ?_) (bs_ 5 3) rfl rfl (by kernel_rfl) (fun _ _ _ h => h) (Or.inl ⟨by rfl, ?_⟩) hHeld ?_ ?_
      rotate_left
      · rintro w' ⟨s0, s1, s2, s3, s4, s5, s6, s7, s8, s9⟩
        go_simp
        (first | with_reducible rfl | rfl)
      rotate_left
      · simp only [Act.put, List.setIfInBounds_toArray, List.set_cons_zero, List.set_cons_succ, i64_w, i32_w]
        rfl
      refine one_ (i := 2) (N := some 24) (bs_ 5 7) rfl rfl (by kernel_rfl) (by decide) (fun K hK => ?_)
      refine goes_ Try.func30 (by kernel_rfl) rfl #[.agg #[.int .i64 a0_0, .int .i64 a0_1, .string a0_2, .slice A0_3 l0_3.length c0_3, .slice A0_4 l0_4.length c0_4]] (by rfl) rfl rfl (by (try simp only [List.map_toArray, List.map_cons, List.map_nil]); first | done | rfl | (simp only [List.length_drop, List.length_take]; rfl)) ?_
      with_reducible refine (laws_toNode.calls k a0_0 a0_1 a0_2 _ _ l0_3 _ _ l0_4 t1323 t1324 t1325 t1326 t1329 _ ?side1 ?side2 ?side3 ?side4 A27.out).mono ?_
      (case side1 => repeat (first | exact (Kd.C_below HR0_3.out HB.out) | (with_reducible refine Kd.C_alloc ?_ _) | (with_reducible refine Kd.C_drewN ?_ _) | (with_reducible refine Kd.C_drew ?_)))
      (case side2 => exact HC0_3.out)
      (case side3 => repeat (first | exact (Kd.C_below HR0_4.out HB.out) | (with_reducible refine Kd.C_alloc ?_ _) | (with_reducible refine Kd.C_drewN ?_ _) | (with_reducible refine Kd.C_drew ?_)))
      (case side4 => exact HC0_4.out)
      rintro e w31 ⟨v1327, v1330, rfl, ho0, ho1, hb⟩
      refine ⟨_, rfl, ?_⟩
      have n0_ := Aside0.mk (Kd.R_elder' (by (with_reducible repeat (first | apply Kd.R_alloc | apply Kd.R_drewN | apply Kd.R_drew)); exact HO1307.out) (Kd.R_base ho0) hb)
      have n1_ := Aside0.mk (Kd.R_mono (Kd.R_told (Kd.R_told (Kd.R_old (by (with_reducible repeat (first | apply Kd.R_alloc | apply Kd.R_drewN | apply Kd.R_drew)); exact HO1310.out) hb) (Kd.R_base ho0)) (Kd.R_base ho1)) (fun _ h_ => h_.1))
      have n2_ := Aside0.mk (Kd.R_elder' (by (with_reducible repeat (first | apply Kd.R_alloc | apply Kd.R_drewN | apply Kd.R_drew)); exact HO1317.out) (Kd.R_base ho0) hb)
      have n3_ := Aside0.mk (Kd.R_mono (Kd.R_told (Kd.R_told (Kd.R_old (by (with_reducible repeat (first | apply Kd.R_alloc | apply Kd.R_drewN | apply Kd.R_drew)); exact HO1320.out) hb) (Kd.R_base ho0)) (Kd.R_base ho1)) (fun _ h_ => h_.1))
      have n4_ := Aside0.mk (Kd.R_lower (Kd.R_new' (Kd.R_new' ho0 (Kd.R_lt (by (with_reducible repeat (first | apply Kd.R_alloc | apply Kd.R_drewN | apply Kd.R_drew)); exact HO1307.out))) (Kd.R_lt (by (with_reducible repeat (first | apply Kd.R_alloc | apply Kd.R_drewN | apply Kd.R_drew)); exact HO1317.out))) (below_size (by repeat (first | (with_reducible first | exact HB.out | apply below_alloc | apply pw_below_drewN | apply below_drew1 | refine below_set ?_ GE1300.out | refine below_set ?_ GE1321.out) | exact HB.out))))
      have n5_ := Aside0.mk (Kd.R_lower (Kd.R_newB (Kd.R_new' (Kd.R_new' (Kd.R_new' (Kd.R_new' ho1 (Kd.R_lt (by (with_reducible repeat (first | apply Kd.R_alloc | apply Kd.R_drewN | apply Kd.R_drew)); exact HO1307.out))) (Kd.R_lt (by (with_reducible repeat (first | apply Kd.R_alloc | apply Kd.R_drewN | apply Kd.R_drew)); exact HO1310.out))) (Kd.R_lt (by (with_reducible repeat (first | apply Kd.R_alloc | apply Kd.R_drewN | apply Kd.R_drew)); exact HO1317.out))) (Kd.R_lt (by (with_reducible repeat (first | apply Kd.R_alloc | apply Kd.R_drewN | apply Kd.R_drew)); exact HO1320.out))) (g := gb1321) (o := .cells #[.int .i64 t1312, .int .i64 t1313, .string t1314, .slice Ao23 t1315.length co23, .slice Ao24 t1318.length co24] 25 (0, 0)) (by (with_reducible repeat (first | refine blk_drewN ?_ _ | refine blk_drew ?_ | refine blk_alloc ?_ _)); exact BK1321.out)) (below_size (by repeat (first | (with_reducible first | exact HB.out | apply below_alloc | apply pw_below_drewN | apply below_drew1 | refine below_set ?_ GE1300.out | refine below_set ?_ GE1321.out) | exact HB.out))))
      have n6_ := Aside0.mk (blk_below (g := gb1300) (o := .cells #[.int .i64 a0_0, .int .i64 a0_1, .string a0_2, .slice A0_3 l0_3.length c0_3, .slice A0_4 l0_4.length c0_4] 36 (0, 0)) (by (with_reducible repeat (first | refine blk_drewN ?_ _ | refine blk_drew ?_ | refine blk_alloc ?_ _)); exact BK1300.out) hb)
      have n7_ := Aside0.mk (blk_below (g := gb1321) (o := .cells #[.int .i64 t1312, .int .i64 t1313, .string t1314, .slice Ao23 t1315.length co23, .slice Ao24 t1318.length co24] 25 (0, 0)) (by (with_reducible repeat (first | refine blk_drewN ?_ _ | refine blk_drew ?_ | refine blk_alloc ?_ _)); exact BK1321.out) hb)
      have n8_ := Aside0.mk (below_step (by repeat (first | (with_reducible first | exact HB.out | apply below_alloc | apply pw_below_drewN | apply below_drew1 | refine below_set ?_ GE1300.out | refine below_set ?_ GE1321.out) | exact HB.out)) hb)
      clear HO1307
      clear HO1310
      clear HO1317
      clear HO1320
      clear BK1300
      clear BK1321
      clear HB
      have HO1307 := n0_
      have HO1310 := n1_
      have HO1317 := n2_
      have HO1320 := n3_
      have HO1328 := n4_
      have HO1331 := n5_
      have BK1300 := n6_
      have BK1321 := n7_
      have HB := n8_
      clear n0_ n1_ n2_ n3_ n4_ n5_ n6_ n7_ n8_
      (try clear hb)
      (try clear hb2)
      (try clear hk)
      (try clear hi)
      (try clear ho0)
      (try clear ho1)
      obtain ⟨Ao32, co32, eo32⟩ := Kd.R_slice HO1328.out
      (first | subst eo32 | (injection eo32 with f1_ f2_ f3_; have f4_ := f1_.symm; have f5_ := f3_.symm; clear f1_ f2_ f3_; subst f4_; subst f5_))
      obtain ⟨Ao33, co33, eo33⟩ := Kd.R_slice HO1331.out
      (first | subst eo33 | (injection eo33 with f1_ f2_ f3_; have f4_ := f1_.symm; have f5_ := f3_.symm; clear f1_ f2_ f3_; subst f4_; subst f5_))
      refine hK.out _ _ ⟨(blk_cell BK1321.out 0).trans rfl, (blk_cell BK1321.out 1).trans rfl, (blk_cell BK1321.out 2).trans rfl, (blk_cell BK1321.out 3).trans rfl, (blk_cell BK1321.out 4).trans rfl, (blk_cell BK1300.out 0).trans rfl, (blk_cell BK1300.out 1).trans rfl, (blk_cell BK1300.out 2).trans rfl, (blk_cell BK1300.out 3).trans rfl, (blk_cell BK1300.out 4).trans rfl⟩ (fun hHeld => ?_)
      clear hK K
      refine norm_ (a' := ?_) ?_ ?_
      rotate_left
      · show Act.put _ (some 24) _ = _
        simp only [Act.put, List.setIfInBounds_toArray, List.set_cons_zero, List.set_cons_succ, i64_w, i32_w]
        rfl
      refine one_ (i := 3) (N := some 25) (bs_ 5 15) rfl rfl (by kernel_rfl) (by decide) (fun K hK => ?_)
      refine goes_ Try.func21 (by kernel_rfl) rfl #[.agg #[.int .i64 t1312, .int .i64 t1313, .string t1314, .slice Ao23 t1315.length co23, .slice Ao24 t1318.length co24], .agg #[.int .i64 t1323, .int .i64 t1324, .string t1325, .slice Ao32 t1326.length co32, .slice Ao33 t1329.length co33]] (by rfl) rfl rfl (by (try simp only [List.map_toArray, List.map_cons, List.map_nil]); first | done | rfl | (simp only [List.length_drop, List.length_take]; rfl)) ?_
      with_reducible refine (laws_eqNode.calls k t1312 t1313 t1314 _ _ t1315 _ _ t1318 t1323 t1324 t1325 _ _ t1326 _ _ t1329 t1332 _ ?side1 ?side2 ?side3 ?side4 ?side5 ?side6 ?side7 ?side8 A28.out).mono ?_
      (case side1 => repeat (first | exact (Kd.R_reads' HO1317.out).2.2 | (with_reducible refine Kd.C_alloc ?_ _) | (with_reducible refine Kd.C_drewN ?_ _) | (with_reducible refine Kd.C_drew ?_)))
      (case side2 => exact (Kd.R_reads' HO1317.out).2.1)
      (case side3 => repeat (first | exact (Kd.R_reads' HO1320.out).2.2 | (with_reducible refine Kd.C_alloc ?_ _) | (with_reducible refine Kd.C_drewN ?_ _) | (with_reducible refine Kd.C_drew ?_)))
      (case side4 => exact (Kd.R_reads' HO1320.out).2.1)
      (case side5 => repeat (first | exact (Kd.R_reads' HO1328.out).2.2 | (with_reducible refine Kd.C_alloc ?_ _) | (with_reducible refine Kd.C_drewN ?_ _) | (with_reducible refine Kd.C_drew ?_)))
      (case side6 => exact (Kd.R_reads' HO1328.out).2.1)
      (case side7 => repeat (first | exact (Kd.R_reads' HO1331.out).2.2 | (with_reducible refine Kd.C_alloc ?_ _) | (with_reducible refine Kd.C_drewN ?_ _) | (with_reducible refine Kd.C_drew ?_)))
      (case side8 => exact (Kd.R_reads' HO1331.out).2.1)
      rintro e w34 ⟨rfl, hb⟩
      refine ⟨_, rfl, ?_⟩
      have n0_ := Aside0.mk (Kd.R_below (by (with_reducible repeat (first | apply Kd.R_alloc | apply Kd.R_drewN | apply Kd.R_drew)); exact HO1307.out) hb)
      have n1_ := Aside0.mk (Kd.R_below (by (with_reducible repeat (first | apply Kd.R_alloc | apply Kd.R_drewN | apply Kd.R_drew)); exact HO1310.out) hb)
      have n2_ := Aside0.mk (Kd.R_below (by (with_reducible repeat (first | apply Kd.R_alloc | apply Kd.R_drewN | apply Kd.R_drew)); exact HO1317.out) hb)
      have n3_ := Aside0.mk (Kd.R_below (by (with_reducible repeat (first | apply Kd.R_alloc | apply Kd.R_drewN | apply Kd.R_drew)); exact HO1320.out) hb)
      have n4_ := Aside0.mk (Kd.R_below (by (with_reducible repeat (first | apply Kd.R_alloc | apply Kd.R_drewN | apply Kd.R_drew)); exact HO1328.out) hb)
      have n5_ := Aside0.mk (Kd.R_below (by (with_reducible repeat (first | apply Kd.R_alloc | apply Kd.R_drewN | apply Kd.R_drew)); exact HO1331.out) hb)
      have n6_ := Aside0.mk (blk_below (g := gb1300) (o := .cells #[.int .i64 a0_0, .int .i64 a0_1, .string a0_2, .slice A0_3 l0_3.length c0_3, .slice A0_4 l0_4.length c0_4] 36 (0, 0)) (by (with_reducible repeat (first | refine blk_drewN ?_ _ | refine blk_drew ?_ | refine blk_alloc ?_ _)); exact BK1300.out) hb)
      have n7_ := Aside0.mk (blk_below (g := gb1321) (o := .cells #[.int .i64 t1312, .int .i64 t1313, .string t1314, .slice Ao23 t1315.length co23, .slice Ao24 t1318.length co24] 25 (0, 0)) (by (with_reducible repeat (first | refine blk_drewN ?_ _ | refine blk_drew ?_ | refine blk_alloc ?_ _)); exact BK1321.out) hb)
      have n8_ := Aside0.mk (below_step (by repeat (first | (with_reducible first | exact HB.out | apply below_alloc | apply pw_below_drewN | apply below_drew1 | refine below_set ?_ GE1300.out | refine below_set ?_ GE1321.out) | exact HB.out)) hb)
      clear HO1307
      clear HO1310
      clear HO1317
      clear HO1320
      clear HO1328
      clear HO1331
      clear BK1300
      clear BK1321
      clear HB
      have HO1307 := n0_
      have HO1310 := n1_
      have HO1317 := n2_
      have HO1320 := n3_
      have HO1328 := n4_
      have HO1331 := n5_
      have BK1300 := n6_
      have BK1321 := n7_
      have HB := n8_
      clear n0_ n1_ n2_ n3_ n4_ n5_ n6_ n7_ n8_
      (try clear hb)
      (try clear hb2)
      (try clear hk)
      (try clear hi)
      refine hK.out _ _ ⟨(blk_cell BK1321.out 0).trans rfl, (blk_cell BK1321.out 1).trans rfl, (blk_cell BK1321.out 2).trans rfl, (blk_cell BK1321.out 3).trans rfl, (blk_cell BK1321.out 4).trans rfl, (blk_cell BK1300.out 0).trans rfl, (blk_cell BK1300.out 1).trans rfl, (blk_cell BK1300.out 2).trans rfl, (blk_cell BK1300.out 3).trans rfl, (blk_cell BK1300.out 4).trans rfl⟩ (fun hHeld => ?_)
      clear hK K
      refine norm_ (a' := ?_) ?_ ?_
      rotate_left
      · show Act.put _ (some 25) _ = _
        simp only [Act.put, List.setIfInBounds_toArray, List.set_cons_zero, List.set_cons_succ, i64_w, i32_w]
        rfl
      refine pure_ (i := 4) (N := some 26) (v := _) (a' := _) (bs_ 5 31) rfl rfl (by kernel_rfl) (fun _ _ _ h => h) (Or.inl ⟨by rfl, by intro w'; go_simp; first | with_reducible rfl | rfl⟩) (by simp only [Act.put, List.setIfInBounds_toArray, List.set_cons_zero, List.set_cons_succ, i64_w, i32_w]; rfl) ?_
      refine done_ (by kernel_rfl) ?_
      go_upto_if 26 with (fail)
      try clear hHeld
      have H := HC29.out
      clear HC29
      by_cases c35 : t1332 = true
      · subst c35
        have H1 : (some true) = some r := by rw [if_pos rfl] at H; exact H
        clear H
        have H := H1
        clear H1
        obtain rfl := Option.some.inj H
        go_wp2
        go_ret
        exact ⟨by first | rfl | (simp [errW_none, errW_some] <;> rfl) | (simp [*, errW_none, errW_some] <;> rfl), by repeat (first | (with_reducible first | exact HB.out | apply below_alloc | apply pw_below_drewN | apply below_drew1 | refine below_set ?_ GE1300.out | refine below_set ?_ GE1321.out) | exact HB.out)⟩
      · replace c35 := Bool.eq_false_iff.mpr c35
        subst c35
        have H1 : (some false) = some r := by rw [if_neg (show ¬ (false = true) by decide)] at H; exact H
        clear H
        have H := H1
        clear H1
        obtain rfl := Option.some.inj H
        go_wp2
        go_ret
        exact ⟨by first | rfl | (simp [errW_none, errW_some] <;> rfl) | (simp [*, errW_none, errW_some] <;> rfl), by repeat (first | (with_reducible first | exact HB.out | apply below_alloc | apply pw_below_drewN | apply below_drew1 | refine below_set ?_ GE1300.out | refine below_set ?_ GE1321.out) | exact HB.out)⟩
    · rw [if_neg c26] at H
      have c26b0 : (t1322.toList == t1311.toList) = false := beq_eq_false_iff_ne.mpr c26
      have c26b1 : (t1322.toList != t1311.toList) = true := bne_iff_ne.mpr c26
      (first | rw [c26b0] | rw [c26b1] | (simp only [i64_w, i32_w]; rw [c26b0]) | skip)
      obtain rfl := Option.some.inj H
      go_wp2
      go_ret
      exact ⟨by first | rfl | (simp [errW_none, errW_some] <;> rfl) | (simp [*, errW_none, errW_some] <;> rfl), by repeat (first | (with_reducible first | exact HB.out | apply below_alloc | apply pw_below_drewN | apply below_drew1 | refine below_set ?_ GE1300.out | refine below_set ?_ GE1321.out) | exact HB.out)⟩

end Go.Proofs.Ytnbnpgjgibcmpaa.P
