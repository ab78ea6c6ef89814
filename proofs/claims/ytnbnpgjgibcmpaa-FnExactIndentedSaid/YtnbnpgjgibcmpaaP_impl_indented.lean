-- Made by drive.py (a program of this session) over the kit's print; not written line by line by a hand.
import Derived.Test.YtnbnpgjgibcmpaaP0
import Derived.Test.YtnbnpgjgibcmpaaP_spec_Braced
import Derived.Test.YtnbnpgjgibcmpaaP_spec_l5Block
import Derived.Test.YtnbnpgjgibcmpaaP_spec_l5Letter
namespace Go.Proofs.Ytnbnpgjgibcmpaa.P
open Go.RowKit Go.Proofs.YtnbnpgjgibcmpaaW.PrintWords Go.Proofs.YtnbnpgjgibcmpaaW.PrintLast Go.Proofs.YtnbnpgjgibcmpaaW.PrintMore
attribute [local go_sem] max2_int min2_int max_two min_two max_three min_three max_four min_four   -- for this text's walks alone
set_option linter.unusedVariables false
set_option linter.unusedSimpArgs false

/-! ### impl_indented: function 121 -/
mutual
def impl_indented.l0 : Nat → Int → ByteArray → List (S25) → Int → Int → Int → Int → ByteArray → List ByteArray → List (S25) → Option (ByteArray)
  | 0, _, _, _, _, _, _, _, _, _, _ => none
  | k + 1, x1, x5, x16, x17, x18, x1396000, x1396001, x1396002, x1396003, x1396004 => if x18 < x17 then (if 0 ≤ x18 then (if x18 < (x16.length : Int) then ((strings_Repeat.f (⟨#[32]⟩ : ByteArray) x1).bind fun t1399 => (if x5.size + t1399.size ≤ 9223372036854775807 then (if x1396000 = 4 then (if (x5 ++ t1399).size + 1 ≤ 9223372036854775807 then (impl_indented.j1 k x1 ((x5 ++ t1399) ++ (⟨#[45]⟩ : ByteArray)) x16 x17 x18 x1396000 x1396001 x1396002 x1396003 x1396004 ((rd_T25 x16 x18).f0) ((rd_T25 x16 x18).f1) ((rd_T25 x16 x18).f2) ((rd_T25 x16 x18).f3) ((rd_T25 x16 x18).f4)) else (none)) else (if x18 < (x1396003.length : Int) then ((impl_PlainOk.f k (rdOf ByteArray.empty x1396003 x18)).bind fun t1401 => (if t1401 = true then (if (rdOf ByteArray.empty x1396003 x18).size + 1 ≤ 9223372036854775807 then (if (x5 ++ t1399).size + ((rdOf ByteArray.empty x1396003 x18) ++ (⟨#[58]⟩ : ByteArray)).size ≤ 9223372036854775807 then (impl_indented.j1 k x1 ((x5 ++ t1399) ++ ((rdOf ByteArray.empty x1396003 x18) ++ (⟨#[58]⟩ : ByteArray))) x16 x17 x18 x1396000 x1396001 x1396002 x1396003 x1396004 ((rd_T25 x16 x18).f0) ((rd_T25 x16 x18).f1) ((rd_T25 x16 x18).f2) ((rd_T25 x16 x18).f3) ((rd_T25 x16 x18).f4)) else (none)) else (none)) else ((impl_Quote.f k (rdOf ByteArray.empty x1396003 x18)).bind fun t1404 => (if t1404.size + 1 ≤ 9223372036854775807 then (if (x5 ++ t1399).size + (t1404 ++ (⟨#[58]⟩ : ByteArray)).size ≤ 9223372036854775807 then (impl_indented.j1 k x1 ((x5 ++ t1399) ++ (t1404 ++ (⟨#[58]⟩ : ByteArray))) x16 x17 x18 x1396000 x1396001 x1396002 x1396003 x1396004 ((rd_T25 x16 x18).f0) ((rd_T25 x16 x18).f1) ((rd_T25 x16 x18).f2) ((rd_T25 x16 x18).f3) ((rd_T25 x16 x18).f4)) else (none)) else (none))))) else (none))) else (none))) else (none)) else (none)) else (some x5)
def impl_indented.j1 : Nat → Int → ByteArray → List (S25) → Int → Int → Int → Int → ByteArray → List ByteArray → List (S25) → Int → Int → ByteArray → List ByteArray → List (S25) → Option (ByteArray)
  | 0, _, _, _, _, _, _, _, _, _, _, _, _, _, _, _ => none
  | k + 1, x1, x5, x16, x17, x18, x1396000, x1396001, x1396002, x1396003, x1396004, x1399000, x1399001, x1399002, x1399003, x1399004 => if (x1399004.length : Int) > 0 then ((impl_indented.f k x1399000 x1399001 x1399002 x1399003 x1399004 (wrap64 (x1 + 2))).bind fun t1405 => (if 1 + t1405.size ≤ 9223372036854775807 then (if x5.size + ((⟨#[10]⟩ : ByteArray) ++ t1405).size ≤ 9223372036854775807 then (impl_indented.l0 k x1 (x5 ++ ((⟨#[10]⟩ : ByteArray) ++ t1405)) x16 x17 (wrap64 (x18 + 1)) x1396000 x1396001 x1396002 x1396003 x1396004) else (none)) else (none))) else ((impl_Inline.f k x1399000 x1399001 x1399002 x1399003 x1399004).bind fun t1406 => (if 1 + t1406.size ≤ 9223372036854775807 then (if ((⟨#[32]⟩ : ByteArray) ++ t1406).size + 1 ≤ 9223372036854775807 then (if x5.size + (((⟨#[32]⟩ : ByteArray) ++ t1406) ++ (⟨#[10]⟩ : ByteArray)).size ≤ 9223372036854775807 then (impl_indented.l0 k x1 (x5 ++ (((⟨#[32]⟩ : ByteArray) ++ t1406) ++ (⟨#[10]⟩ : ByteArray))) x16 x17 (wrap64 (x18 + 1)) x1396000 x1396001 x1396002 x1396003 x1396004) else (none)) else (none)) else (none)))
def impl_indented.f : Nat → Int → Int → ByteArray → List ByteArray → List (S25) → Int → Option (ByteArray)
  | 0, _, _, _, _, _, _ => none
  | k + 1, a0_0, a0_1, a0_2, l0_3, l0_4, a1 => if (l0_4.length : Int) = 0 then ((impl_Inline.f k a0_0 a0_1 a0_2 l0_3 l0_4).bind fun t1396 => (if t1396.size + 1 ≤ 9223372036854775807 then (some (t1396 ++ (⟨#[10]⟩ : ByteArray))) else (none))) else (impl_indented.l0 k a1 (⟨#[]⟩ : ByteArray) l0_4 (l0_4.length : Int) 0 a0_0 a0_1 a0_2 l0_3 l0_4)
end
theorem impl_indented.mono_l : ∀ k, (∀ y0 y1 y2 y3 y4 y5, LeO (impl_indented.f k y0 y1 y2 y3 y4 y5) (impl_indented.f (k + 1) y0 y1 y2 y3 y4 y5)) ∧ (∀ y0 y1 y2 y3 y4 y5 y6 y7 y8 y9, LeO (impl_indented.l0 k y0 y1 y2 y3 y4 y5 y6 y7 y8 y9) (impl_indented.l0 (k + 1) y0 y1 y2 y3 y4 y5 y6 y7 y8 y9)) ∧ (∀ y0 y1 y2 y3 y4 y5 y6 y7 y8 y9 y10 y11 y12 y13 y14, LeO (impl_indented.j1 k y0 y1 y2 y3 y4 y5 y6 y7 y8 y9 y10 y11 y12 y13 y14) (impl_indented.j1 (k + 1) y0 y1 y2 y3 y4 y5 y6 y7 y8 y9 y10 y11 y12 y13 y14))
  | 0 => ⟨fun _ _ _ _ _ _ r h => by simp [impl_indented.f] at h, fun _ _ _ _ _ _ _ _ _ _ r h => by simp [impl_indented.l0] at h, fun _ _ _ _ _ _ _ _ _ _ _ _ _ _ _ r h => by simp [impl_indented.j1] at h⟩
  | k + 1 => by
    obtain ⟨ih0, ih1, ih2⟩ := impl_indented.mono_l k
    refine ⟨?_, ?_, ?_⟩
    · intro y0 y1 y2 y3 y4 y5
      unfold impl_indented.f
      repeat' first
      | (with_reducible exact ih0 _ _ _ _ _ _)
      | (with_reducible exact ih1 _ _ _ _ _ _ _ _ _ _)
      | (with_reducible exact ih2 _ _ _ _ _ _ _ _ _ _ _ _ _ _ _)
      | (with_reducible exact impl_Inline.mono _ _ _ _ _ _)
      | (with_reducible exact impl_PlainOk.mono _ _)
      | (with_reducible exact impl_Quote.mono _ _)
      | (with_reducible exact LeO.refl _)
      | (with_reducible exact LeO.none _)
      | (with_reducible refine LeO.ite ?_ ?_)
      | (with_reducible refine LeO.bind ?_ (fun _ => ?_))
      | exact ih0 _ _ _ _ _ _
      | exact ih1 _ _ _ _ _ _ _ _ _ _
      | exact ih2 _ _ _ _ _ _ _ _ _ _ _ _ _ _ _
      | exact impl_Inline.mono _ _ _ _ _ _
      | exact impl_PlainOk.mono _ _
      | exact impl_Quote.mono _ _
      | exact LeO.none _
      | refine LeO.ite ?_ ?_
      | refine LeO.bind ?_ (fun _ => ?_)
    · intro y0 y1 y2 y3 y4 y5 y6 y7 y8 y9
      unfold impl_indented.l0
      repeat' first
      | (with_reducible exact ih0 _ _ _ _ _ _)
      | (with_reducible exact ih1 _ _ _ _ _ _ _ _ _ _)
      | (with_reducible exact ih2 _ _ _ _ _ _ _ _ _ _ _ _ _ _ _)
      | (with_reducible exact impl_Inline.mono _ _ _ _ _ _)
      | (with_reducible exact impl_PlainOk.mono _ _)
      | (with_reducible exact impl_Quote.mono _ _)
      | (with_reducible exact LeO.refl _)
      | (with_reducible exact LeO.none _)
      | (with_reducible refine LeO.ite ?_ ?_)
      | (with_reducible refine LeO.bind ?_ (fun _ => ?_))
      | exact ih0 _ _ _ _ _ _
      | exact ih1 _ _ _ _ _ _ _ _ _ _
      | exact ih2 _ _ _ _ _ _ _ _ _ _ _ _ _ _ _
      | exact impl_Inline.mono _ _ _ _ _ _
      | exact impl_PlainOk.mono _ _
      | exact impl_Quote.mono _ _
      | exact LeO.none _
      | refine LeO.ite ?_ ?_
      | refine LeO.bind ?_ (fun _ => ?_)
    · intro y0 y1 y2 y3 y4 y5 y6 y7 y8 y9 y10 y11 y12 y13 y14
      unfold impl_indented.j1
      repeat' first
      | (with_reducible exact ih0 _ _ _ _ _ _)
      | (with_reducible exact ih1 _ _ _ _ _ _ _ _ _ _)
      | (with_reducible exact ih2 _ _ _ _ _ _ _ _ _ _ _ _ _ _ _)
      | (with_reducible exact impl_Inline.mono _ _ _ _ _ _)
      | (with_reducible exact impl_PlainOk.mono _ _)
      | (with_reducible exact impl_Quote.mono _ _)
      | (with_reducible exact LeO.refl _)
      | (with_reducible exact LeO.none _)
      | (with_reducible refine LeO.ite ?_ ?_)
      | (with_reducible refine LeO.bind ?_ (fun _ => ?_))
      | exact ih0 _ _ _ _ _ _
      | exact ih1 _ _ _ _ _ _ _ _ _ _
      | exact ih2 _ _ _ _ _ _ _ _ _ _ _ _ _ _ _
      | exact impl_Inline.mono _ _ _ _ _ _
      | exact impl_PlainOk.mono _ _
      | exact impl_Quote.mono _ _
      | exact LeO.none _
      | refine LeO.ite ?_ ?_
      | refine LeO.bind ?_ (fun _ => ?_)
theorem impl_indented.mono : ∀ a0 a1 a2 a3 a4 a5 k, LeO (impl_indented.f k a0 a1 a2 a3 a4 a5) (impl_indented.f (k + 1) a0 a1 a2 a3 a4 a5) := by
  intro a0 a1 a2 a3 a4 a5 k
  obtain ⟨ih0, ih1, ih2⟩ := impl_indented.mono_l k
  exact ih0 a0 a1 a2 a3 a4 a5
set_option maxHeartbeats 8000000 in
set_option maxRecDepth 100000 in
theorem impl_indented.calls (k : Nat) : ∀ (a0_0 : Int) (a0_1 : Int) (a0_2 : ByteArray) (A0_3 : Option Addr) (c0_3 : Nat) (l0_3 : List ByteArray) (A0_4 : Option Addr) (c0_4 : Nat) (l0_4 : List (S25)) (a1 : Int) (r : ByteArray) (w : World) (hr0_3 : Kd.C Kd.string w A0_3 l0_3.length l0_3) (hc0_3 : l0_3.length ≤ c0_3) (hr0_4 : Kd.C k25 w A0_4 l0_4.length l0_4) (hc0_4 : l0_4.length ≤ c0_4) (h : impl_indented.f k a0_0 a0_1 a0_2 l0_3 l0_4 a1 = some r),
    Calls Try.prog 121 #[.agg #[.int .i64 a0_0, .int .i64 a0_1, .string a0_2, .slice A0_3 l0_3.length c0_3, .slice A0_4 l0_4.length c0_4], .int .i64 a1] w fun e w' => e = .returned (.string r) ∧ Below w.heap.size w w' := by
  induction k using Nat.strongRecOn with
  | _ k ih =>
  intro a0_0 a0_1 a0_2 A0_3 c0_3 l0_3 A0_4 c0_4 l0_4 a1 r w hr0_3 hc0_3 hr0_4 hc0_4 h
  cases k with
  | zero => exact absurd h (by simp [impl_indented.f])
  | succ k =>
  simp only [impl_indented.f] at h
  have hu25 := Try.underlying25
  have HR0_3 := Aside0.mk hr0_3
  have HC0_3 := Aside0.mk hc0_3
  clear hr0_3 hc0_3
  have HR0_4 := Aside0.mk hr0_4
  have HC0_4 := Aside0.mk hc0_4
  clear hr0_4 hc0_4
  have HB := Aside0.mk (Below.refl w.heap.size w)
  have H : (if (l0_4.length : Int) = 0 then ((impl_Inline.f k a0_0 a0_1 a0_2 l0_3 l0_4).bind fun t1396 => (if t1396.size + 1 ≤ 9223372036854775807 then (some (t1396 ++ (⟨#[10]⟩ : ByteArray))) else (none))) else (impl_indented.l0 k a1 (⟨#[]⟩ : ByteArray) l0_4 (l0_4.length : Int) 0 a0_0 a0_1 a0_2 l0_3 l0_4)) = some r := h
  clear h
  have HC3 := Aside0.mk H
  clear H
  go_enter Try.func121, Try.ntmps121
  go_upto_if 11 with (first | ((with_reducible refine gate_dst (N := 2) rfl ?_); refine box_event ?hg (N := 2) ?hd (cs := #[.int .i64 a0_0, .int .i64 a0_1, .string a0_2, .slice A0_3 l0_3.length c0_3, .slice A0_4 l0_4.length c0_4]) (t := 25) ?hr ?_; (case hd => rfl); (case hg => rfl); (case hr => first | (go_simp; done) | (go_simp; rfl)); intro gb1395 hg w4 hbox hb; have n0_ := Aside0.mk (below_step (by repeat (first | (with_reducible first | exact HB.out | apply below_alloc | apply pw_below_drewN | apply below_drew1) | exact HB.out)) hb); have n1_ := Aside0.mk (hbox); have n2_ := Aside0.mk ((by rw [hg]; exact (below_size (by repeat (first | (with_reducible first | exact HB.out | apply below_alloc | apply pw_below_drewN | apply below_drew1) | exact HB.out))) : w.heap.size ≤ gb1395)); have n3_ := Aside0.mk ((by rw [hg]; exact (below_size (by repeat (first | (with_reducible first | exact HB.out | apply below_alloc | apply pw_below_drewN | apply below_drew1) | exact HB.out))) : w.heap.size ≤ gb1395)); clear HB; have HB := n0_; have BK1395 := n1_; have GW1395 := n2_; have GE1395 := n3_; clear n0_ n1_ n2_ n3_; clear hb hbox hg; have hcz5_0 : w4.cell? ⟨gb1395, 0, none⟩ = some (.int .i64 a0_0) := (blk_cell BK1395.out 0).trans rfl; have hcz5_1 : w4.cell? ⟨gb1395, 1, none⟩ = some (.int .i64 a0_1) := (blk_cell BK1395.out 1).trans rfl; have hcz5_2 : w4.cell? ⟨gb1395, 2, none⟩ = some (.string a0_2) := (blk_cell BK1395.out 2).trans rfl; have hcz5_3 : w4.cell? ⟨gb1395, 3, none⟩ = some (.slice A0_3 l0_3.length c0_3) := (blk_cell BK1395.out 3).trans rfl; have hcz5_4 : w4.cell? ⟨gb1395, 4, none⟩ = some (.slice A0_4 l0_4.length c0_4) := (blk_cell BK1395.out 4).trans rfl; have hfz5_0 := blk_frozen BK1395.out 0; have hfz5_1 := blk_frozen BK1395.out 1; have hfz5_2 := blk_frozen BK1395.out 2; have hfz5_3 := blk_frozen BK1395.out 3; have hfz5_4 := blk_frozen BK1395.out 4))
  (try simp only [Act.put, List.setIfInBounds_toArray, List.set_cons_zero, List.set_cons_succ])
  have H := HC3.out
  clear HC3
  by_cases c6 : (l0_4.length : Int) = 0
  · rw [if_pos c6] at H
    have c6b0 : ((l0_4.length : Int) == 0) = true := beq_iff_eq.mpr c6
    have c6b1 : ((l0_4.length : Int) != 0) = false := bne_eq_false_iff_eq.mpr c6
    clear c6
    (first | rw [c6b0] | rw [c6b1] | rw [c6b2] | (simp only [i64_w, i32_w]; rw [c6b0]) | skip)
    replace H := Option.bind_eq_some_iff.mp H
    obtain ⟨t1396, A70, H⟩ := H
    replace H : (if t1396.size + 1 ≤ 9223372036854775807 then (some (t1396 ++ (⟨#[10]⟩ : ByteArray))) else (none)) = some r := H
    have A7 := Aside0.mk A70
    clear A70
    by_cases c8 : t1396.size + 1 ≤ 9223372036854775807
    · rw [if_pos c8] at H
      have c8b0 := eq_true c8
      have c8b1 : decide (t1396.size + 1 ≤ 9223372036854775807) = true := decide_eq_true c8
      try have c8b2 : (9223372036854775807 < t1396.size + 1) = False := eq_false (Nat.not_lt.2 c8)
      obtain rfl := Option.some.inj H
      have hcz9_0 : w4.cell? ⟨gb1395, 0, none⟩ = some (.int .i64 a0_0) := (blk_cell BK1395.out 0).trans rfl
      have hcz9_1 : w4.cell? ⟨gb1395, 1, none⟩ = some (.int .i64 a0_1) := (blk_cell BK1395.out 1).trans rfl
      have hcz9_2 : w4.cell? ⟨gb1395, 2, none⟩ = some (.string a0_2) := (blk_cell BK1395.out 2).trans rfl
      have hcz9_3 : w4.cell? ⟨gb1395, 3, none⟩ = some (.slice A0_3 l0_3.length c0_3) := (blk_cell BK1395.out 3).trans rfl
      have hcz9_4 : w4.cell? ⟨gb1395, 4, none⟩ = some (.slice A0_4 l0_4.length c0_4) := (blk_cell BK1395.out 4).trans rfl
      have hfz9_0 := blk_frozen BK1395.out 0
      have hfz9_1 := blk_frozen BK1395.out 1
      have hfz9_2 := blk_frozen BK1395.out 2
      have hfz9_3 := blk_frozen BK1395.out 3
      have hfz9_4 := blk_frozen BK1395.out 4
      go_wp2_with (first | ((with_reducible refine gate_callee (f := 61) rfl ?_); refine goesL_ (some 13) rfl rfl Try.func61 (by kernel_rfl) rfl #[.agg #[.int .i64 a0_0, .int .i64 a0_1, .string a0_2, .slice A0_3 l0_3.length c0_3, .slice A0_4 l0_4.length c0_4]] rfl (by (try simp only [List.map_toArray, List.map_cons, List.map_nil]); first | done | rfl | (simp only [List.length_drop, List.length_take]; rfl)) ?_; (with_reducible refine (impl_Inline.calls k a0_0 a0_1 a0_2 _ _ l0_3 _ _ l0_4 t1396 _ ?side1 ?side2 ?side3 ?side4 A7.out).mono ?_); (case side1 => repeat (first | exact (Kd.C_below HR0_3.out HB.out) | (with_reducible refine Kd.C_alloc ?_ _) | (with_reducible refine Kd.C_drewN ?_ _) | (with_reducible refine Kd.C_drew ?_))); (case side2 => exact HC0_3.out); (case side3 => repeat (first | exact (Kd.C_below HR0_4.out HB.out) | (with_reducible refine Kd.C_alloc ?_ _) | (with_reducible refine Kd.C_drewN ?_ _) | (with_reducible refine Kd.C_drew ?_))); (case side4 => exact HC0_4.out); rintro e w10 ⟨rfl, hb⟩; refine ⟨_, rfl, ?_⟩; have n0_ := Aside0.mk (blk_below (g := gb1395) (o := .cells #[.int .i64 a0_0, .int .i64 a0_1, .string a0_2, .slice A0_3 l0_3.length c0_3, .slice A0_4 l0_4.length c0_4] 25 (0, 0)) (by (with_reducible repeat (first | refine blk_drewN ?_ _ | refine blk_drew ?_ | refine blk_alloc ?_ _)); exact BK1395.out) hb); have n1_ := Aside0.mk (below_step (by repeat (first | (with_reducible first | exact HB.out | apply below_alloc | apply pw_below_drewN | apply below_drew1 | refine below_set ?_ GE1395.out) | exact HB.out)) hb); clear BK1395; clear HB; have BK1395 := n0_; have HB := n1_; clear n0_ n1_; (try clear hb); (try clear hb2); (try clear hk); (try clear hi)))
      go_ret
      exact ⟨by first | rfl | (simp [errW_none, errW_some] <;> rfl) | (simp [*, errW_none, errW_some] <;> rfl), by repeat (first | (with_reducible first | exact HB.out | apply below_alloc | apply pw_below_drewN | apply below_drew1 | refine below_set ?_ GE1395.out) | exact HB.out)⟩
    · rw [if_neg c8] at H
      exact absurd H (by simp)
  · rw [if_neg c6] at H
    have c6b0 : ((l0_4.length : Int) == 0) = false := beq_eq_false_iff_ne.mpr c6
    have c6b1 : ((l0_4.length : Int) != 0) = true := bne_iff_ne.mpr c6
    have c6b2 : ¬ (l0_4 = []) := fun h_ => c6 (by rw [h_]; rfl)
    (first | rw [c6b0] | rw [c6b1] | rw [c6b2] | (simp only [i64_w, i32_w]; rw [c6b0]) | skip)
    have H' := Aside0.mk H
    clear H
    have hcz11_0 : w4.cell? ⟨gb1395, 0, none⟩ = some (.int .i64 a0_0) := (blk_cell BK1395.out 0).trans rfl
    have hcz11_1 : w4.cell? ⟨gb1395, 1, none⟩ = some (.int .i64 a0_1) := (blk_cell BK1395.out 1).trans rfl
    have hcz11_2 : w4.cell? ⟨gb1395, 2, none⟩ = some (.string a0_2) := (blk_cell BK1395.out 2).trans rfl
    have hcz11_3 : w4.cell? ⟨gb1395, 3, none⟩ = some (.slice A0_3 l0_3.length c0_3) := (blk_cell BK1395.out 3).trans rfl
    have hcz11_4 : w4.cell? ⟨gb1395, 4, none⟩ = some (.slice A0_4 l0_4.length c0_4) := (blk_cell BK1395.out 4).trans rfl
    have hfz11_0 := blk_frozen BK1395.out 0
    have hfz11_1 := blk_frozen BK1395.out 1
    have hfz11_2 := blk_frozen BK1395.out 2
    have hfz11_3 := blk_frozen BK1395.out 3
    have hfz11_4 := blk_frozen BK1395.out 4
    go_wp2
    go_loopg [5, 18] k (fun kq v5 v18 w' => ∃ (x5_1 : ByteArray) (x18_1 : Int), v5 = .string x5_1 ∧ v18 = .int .i64 x18_1 ∧ Aside0 (impl_indented.l0 kq a1 x5_1 l0_4 (l0_4.length : Int) x18_1 a0_0 a0_1 a0_2 l0_3 l0_4 = some r) ∧ Aside0 (kq ≤ k) ∧ Aside0 (w'.heap[gb1395]? = some (.cells #[.int .i64 a0_0, .int .i64 a0_1, .string a0_2, (.slice A0_3 l0_3.length c0_3), (.slice A0_4 l0_4.length c0_4)] 25 (0, 0))) ∧ Aside0 (Below w.heap.size w w'))
    case atStart => exact ⟨((⟨#[]⟩ : ByteArray)), (0), (by first | rfl | (simp; done) | (simp [*]; done)), (by first | rfl | (simp; done) | (simp [*]; done)), H', ⟨Nat.le_refl _⟩, ⟨by (with_reducible repeat (first | refine blk_drewN ?_ _ | refine blk_drew ?_ | refine blk_alloc ?_ _)); exact BK1395.out⟩, ⟨by repeat (first | (with_reducible first | exact HB.out | apply below_alloc | apply pw_below_drewN | apply below_drew1 | refine below_set ?_ GE1395.out) | exact HB.out)⟩⟩
    case round =>
      clear H'
      try clear c1
      try clear p2
      try clear c6
      try clear c6b0
      try clear c6b1
      try clear c6b2
      try clear c8
      try clear c8b0
      try clear c8b1
      try clear c8b2
      try clear hcz11_0
      try clear hcz11_1
      try clear hcz11_2
      try clear hcz11_3
      try clear hcz11_4
      try clear hcz5_0
      try clear hcz5_1
      try clear hcz5_2
      try clear hcz5_3
      try clear hcz5_4
      try clear hcz9_0
      try clear hcz9_1
      try clear hcz9_2
      try clear hcz9_3
      try clear hcz9_4
      try clear hfz11_0
      try clear hfz11_1
      try clear hfz11_2
      try clear hfz11_3
      try clear hfz11_4
      try clear hfz5_0
      try clear hfz5_1
      try clear hfz5_2
      try clear hfz5_3
      try clear hfz5_4
      try clear hfz9_0
      try clear hfz9_1
      try clear hfz9_2
      try clear hfz9_3
      try clear hfz9_4
      obtain ⟨x5_1, x18_1, rfl, rfl, HA, HK1, BK1395, HB⟩ := hrel
      cases gk with
      | zero => exact absurd HA.out (by simp [impl_indented.l0])
      | succ k1 =>
        have H := HA.out
        clear HA
        simp only [impl_indented.l0] at H
        by_cases c12 : x18_1 < (l0_4.length : Int)
        · rw [if_pos c12] at H
          have c12b0 : decide (x18_1 < (l0_4.length : Int)) = true := decide_eq_true c12
          clear c12
          by_cases c13 : 0 ≤ x18_1
          · rw [if_pos c13] at H
            have c13b0 : decide (0 ≤ x18_1) = true := decide_eq_true c13
            clear c13
            by_cases c14 : x18_1 < (l0_4.length : Int)
            · rw [if_pos c14] at H
              have c14b0 : decide (x18_1 < (l0_4.length : Int)) = true := decide_eq_true c14
              clear c14
              replace H := Option.bind_eq_some_iff.mp H
              obtain ⟨t1399, A150, H⟩ := H
              replace H : (if x5_1.size + t1399.size ≤ 9223372036854775807 then (if a0_0 = 4 then (if (x5_1 ++ t1399).size + 1 ≤ 9223372036854775807 then (impl_indented.j1 k1 a1 ((x5_1 ++ t1399) ++ (⟨#[45]⟩ : ByteArray)) l0_4 (l0_4.length : Int) x18_1 a0_0 a0_1 a0_2 l0_3 l0_4 ((rd_T25 l0_4 x18_1).f0) ((rd_T25 l0_4 x18_1).f1) ((rd_T25 l0_4 x18_1).f2) ((rd_T25 l0_4 x18_1).f3) ((rd_T25 l0_4 x18_1).f4)) else (none)) else (if x18_1 < (l0_3.length : Int) then ((impl_PlainOk.f k1 (rdOf ByteArray.empty l0_3 x18_1)).bind fun t1401 => (if t1401 = true then (if (rdOf ByteArray.empty l0_3 x18_1).size + 1 ≤ 9223372036854775807 then (if (x5_1 ++ t1399).size + ((rdOf ByteArray.empty l0_3 x18_1) ++ (⟨#[58]⟩ : ByteArray)).size ≤ 9223372036854775807 then (impl_indented.j1 k1 a1 ((x5_1 ++ t1399) ++ ((rdOf ByteArray.empty l0_3 x18_1) ++ (⟨#[58]⟩ : ByteArray))) l0_4 (l0_4.length : Int) x18_1 a0_0 a0_1 a0_2 l0_3 l0_4 ((rd_T25 l0_4 x18_1).f0) ((rd_T25 l0_4 x18_1).f1) ((rd_T25 l0_4 x18_1).f2) ((rd_T25 l0_4 x18_1).f3) ((rd_T25 l0_4 x18_1).f4)) else (none)) else (none)) else ((impl_Quote.f k1 (rdOf ByteArray.empty l0_3 x18_1)).bind fun t1404 => (if t1404.size + 1 ≤ 9223372036854775807 then (if (x5_1 ++ t1399).size + (t1404 ++ (⟨#[58]⟩ : ByteArray)).size ≤ 9223372036854775807 then (impl_indented.j1 k1 a1 ((x5_1 ++ t1399) ++ (t1404 ++ (⟨#[58]⟩ : ByteArray))) l0_4 (l0_4.length : Int) x18_1 a0_0 a0_1 a0_2 l0_3 l0_4 ((rd_T25 l0_4 x18_1).f0) ((rd_T25 l0_4 x18_1).f1) ((rd_T25 l0_4 x18_1).f2) ((rd_T25 l0_4 x18_1).f3) ((rd_T25 l0_4 x18_1).f4)) else (none)) else (none))))) else (none))) else (none)) = some r := H
              have A15 := Aside0.mk A150
              clear A150
              by_cases c16 : x5_1.size + t1399.size ≤ 9223372036854775807
              · rw [if_pos c16] at H
                have c16b0 := eq_true c16
                have c16b1 : decide (x5_1.size + t1399.size ≤ 9223372036854775807) = true := decide_eq_true c16
                try have c16b2 : (9223372036854775807 < x5_1.size + t1399.size) = False := eq_false (Nat.not_lt.2 c16)
                have HC17 := Aside0.mk H
                clear H
                have p1397 : 0 ≤ (x18_1 : Int) := of_decide_eq_true (by first | (with_reducible assumption) | assumption)
                have q1397 : x18_1 < (l0_4.length : Int) := of_decide_eq_true (by first | (with_reducible assumption) | assumption)
                obtain ⟨ad1397, A1397_3, c1397_3, A1397_4, c1397_4, e1397, hx1397_0, hx1397_1, hx1397_2, hx1397_3, hx1397_4, hl1397_3, hi1397_3, hl1397_4, hi1397_4⟩ := at_T25 HR0_4.out x18_1 p1397 q1397
                cases e1397
                replace hx1397_0 := (HB.out.cell (World.block_lt_of_cell? w _ hx1397_0)).trans hx1397_0
                replace hx1397_1 := (HB.out.cell (World.block_lt_of_cell? w _ hx1397_1)).trans hx1397_1
                replace hx1397_2 := (HB.out.cell (World.block_lt_of_cell? w _ hx1397_2)).trans hx1397_2
                replace hx1397_3 := (HB.out.cell (World.block_lt_of_cell? w _ hx1397_3)).trans hx1397_3
                replace hx1397_4 := (HB.out.cell (World.block_lt_of_cell? w _ hx1397_4)).trans hx1397_4
                have HR1397_3 := Aside0.mk hi1397_3
                have HC1397_3 := Aside0.mk hl1397_3
                clear hi1397_3 hl1397_3
                have HR1397_4 := Aside0.mk hi1397_4
                have HC1397_4 := Aside0.mk hl1397_4
                clear hi1397_4 hl1397_4
                replace p1397 := eq_true p1397
                replace q1397 := eq_true q1397
                go_upto_block 2 with (first | ((with_reducible refine gate_dst (N := 7) rfl ?_); refine box_event ?hg (N := 7) ?hd (cs := #[.int .i64 0, .int .i64 0, .string (⟨#[]⟩ : ByteArray), .slice none 0 0, .slice none 0 0]) (t := 25) ?hr ?_; (case hd => rfl); (case hg => rfl); (case hr => first | (go_simp; done) | (go_simp; rfl)); intro gb1398 hg w18 hbox hb; have n0_ := Aside0.mk (blk_below (g := gb1395) (o := .cells #[.int .i64 a0_0, .int .i64 a0_1, .string a0_2, .slice A0_3 l0_3.length c0_3, .slice (some ad1397) l0_4.length c0_4] 25 (0, 0)) (by (with_reducible repeat (first | refine blk_drewN ?_ _ | refine blk_drew ?_ | refine blk_alloc ?_ _)); exact BK1395.out) hb); have n1_ := Aside0.mk (below_step (by repeat (first | (with_reducible first | exact HB.out | apply below_alloc | apply pw_below_drewN | apply below_drew1 | refine below_set ?_ GE1395.out) | exact HB.out)) hb); have n2_ := Aside0.mk (hbox); have n3_ := Aside0.mk ((by rw [hg]; exact (below_size (by repeat (first | (with_reducible first | exact HB.out | apply below_alloc | apply pw_below_drewN | apply below_drew1 | refine below_set ?_ GE1395.out) | exact HB.out))) : w.heap.size ≤ gb1398)); have n4_ := Aside0.mk ((by rw [hg]; exact (below_size (by repeat (first | (with_reducible first | exact HB.out | apply below_alloc | apply pw_below_drewN | apply below_drew1 | refine below_set ?_ GE1395.out) | exact HB.out))) : w.heap.size ≤ gb1398)); have n5_ := Aside0.mk ((by rw [hg]; exact Nat.ne_of_lt (blk_lt (g := gb1395) (o := .cells #[.int .i64 a0_0, .int .i64 a0_1, .string a0_2, .slice A0_3 l0_3.length c0_3, .slice (some ad1397) l0_4.length c0_4] 25 (0, 0)) (by (with_reducible repeat (first | refine blk_drewN ?_ _ | refine blk_drew ?_ | refine blk_alloc ?_ _)); exact BK1395.out)) : gb1395 ≠ gb1398)); have n6_ := Aside0.mk ((by rw [hg]; exact Nat.ne_of_gt (blk_lt (g := gb1395) (o := .cells #[.int .i64 a0_0, .int .i64 a0_1, .string a0_2, .slice A0_3 l0_3.length c0_3, .slice (some ad1397) l0_4.length c0_4] 25 (0, 0)) (by (with_reducible repeat (first | refine blk_drewN ?_ _ | refine blk_drew ?_ | refine blk_alloc ?_ _)); exact BK1395.out)) : gb1398 ≠ gb1395)); clear BK1395; clear HB; have BK1395 := n0_; have HB := n1_; have BK1398 := n2_; have GW1398 := n3_; have GE1398 := n4_; have NB1395_1398 := n5_; have NB1398_1395 := n6_; clear n0_ n1_ n2_ n3_ n4_ n5_ n6_; clear hb hbox hg; have hnb19 := NB1398_1395.out; have hnc19 := NB1395_1398.out; have hcz20_0 : w18.cell? ⟨gb1398, 0, none⟩ = some (.int .i64 0) := (blk_cell BK1398.out 0).trans rfl; have hcz20_1 : w18.cell? ⟨gb1398, 1, none⟩ = some (.int .i64 0) := (blk_cell BK1398.out 1).trans rfl; have hcz20_2 : w18.cell? ⟨gb1398, 2, none⟩ = some (.string (⟨#[]⟩ : ByteArray)) := (blk_cell BK1398.out 2).trans rfl; have hcz20_3 : w18.cell? ⟨gb1398, 3, none⟩ = some (.slice none 0 0) := (blk_cell BK1398.out 3).trans rfl; have hcz20_4 : w18.cell? ⟨gb1398, 4, none⟩ = some (.slice none 0 0) := (blk_cell BK1398.out 4).trans rfl; have hfz20_0 := blk_frozen BK1398.out 0; have hfz20_1 := blk_frozen BK1398.out 1; have hfz20_2 := blk_frozen BK1398.out 2; have hfz20_3 := blk_frozen BK1398.out 3; have hfz20_4 := blk_frozen BK1398.out 4) | ((with_reducible refine gate_callee (f := 147) rfl ?_); refine goesL_ (some 25) rfl rfl Try.func147 (by kernel_rfl) rfl #[.string (⟨#[32]⟩ : ByteArray), .int .i64 a1] rfl (by (try simp only [List.map_toArray, List.map_cons, List.map_nil]); first | done | rfl | (simp only [List.length_drop, List.length_take]; rfl)) ?_; (with_reducible refine (strings_Repeat.calls (⟨#[32]⟩ : ByteArray) a1 t1399 _ A15.out).mono ?_); rintro e w21 ⟨rfl, hb⟩; refine ⟨_, rfl, ?_⟩; have n0_ := Aside0.mk (blk_below (g := gb1395) (o := .cells #[.int .i64 a0_0, .int .i64 a0_1, .string a0_2, .slice A0_3 l0_3.length c0_3, .slice (some ad1397) l0_4.length c0_4] 25 (0, 0)) (by (with_reducible repeat (first | refine blk_drewN ?_ _ | refine blk_drew ?_ | refine blk_alloc ?_ _)); refine blk_far ?_ NB1395_1398.out _; (with_reducible repeat (first | refine blk_drewN ?_ _ | refine blk_drew ?_ | refine blk_alloc ?_ _)); refine blk_far ?_ NB1395_1398.out _; (with_reducible repeat (first | refine blk_drewN ?_ _ | refine blk_drew ?_ | refine blk_alloc ?_ _)); refine blk_far ?_ NB1395_1398.out _; (with_reducible repeat (first | refine blk_drewN ?_ _ | refine blk_drew ?_ | refine blk_alloc ?_ _)); refine blk_far ?_ NB1395_1398.out _; (with_reducible repeat (first | refine blk_drewN ?_ _ | refine blk_drew ?_ | refine blk_alloc ?_ _)); refine blk_far ?_ NB1395_1398.out _; (with_reducible repeat (first | refine blk_drewN ?_ _ | refine blk_drew ?_ | refine blk_alloc ?_ _)); exact BK1395.out) hb); have n1_ := Aside0.mk (blk_below (g := gb1398) (o := .cells #[.int .i64 ((rd_T25 l0_4 x18_1).f0), .int .i64 ((rd_T25 l0_4 x18_1).f1), .string ((rd_T25 l0_4 x18_1).f2), .slice A1397_3 ((rd_T25 l0_4 x18_1).f3).length c1397_3, .slice A1397_4 ((rd_T25 l0_4 x18_1).f4).length c1397_4] 25 (0, 0)) (by (with_reducible repeat (first | refine blk_drewN ?_ _ | refine blk_drew ?_ | refine blk_alloc ?_ _)); refine blk_put (cs := #[.int .i64 ((rd_T25 l0_4 x18_1).f0), .int .i64 ((rd_T25 l0_4 x18_1).f1), .string ((rd_T25 l0_4 x18_1).f2), .slice A1397_3 ((rd_T25 l0_4 x18_1).f3).length c1397_3, .slice none 0 0]) ?_ 4 _ rfl; (with_reducible repeat (first | refine blk_drewN ?_ _ | refine blk_drew ?_ | refine blk_alloc ?_ _)); refine blk_put (cs := #[.int .i64 ((rd_T25 l0_4 x18_1).f0), .int .i64 ((rd_T25 l0_4 x18_1).f1), .string ((rd_T25 l0_4 x18_1).f2), .slice none 0 0, .slice none 0 0]) ?_ 3 _ rfl; (with_reducible repeat (first | refine blk_drewN ?_ _ | refine blk_drew ?_ | refine blk_alloc ?_ _)); refine blk_put (cs := #[.int .i64 ((rd_T25 l0_4 x18_1).f0), .int .i64 ((rd_T25 l0_4 x18_1).f1), .string (⟨#[]⟩ : ByteArray), .slice none 0 0, .slice none 0 0]) ?_ 2 _ rfl; (with_reducible repeat (first | refine blk_drewN ?_ _ | refine blk_drew ?_ | refine blk_alloc ?_ _)); refine blk_put (cs := #[.int .i64 ((rd_T25 l0_4 x18_1).f0), .int .i64 0, .string (⟨#[]⟩ : ByteArray), .slice none 0 0, .slice none 0 0]) ?_ 1 _ rfl; (with_reducible repeat (first | refine blk_drewN ?_ _ | refine blk_drew ?_ | refine blk_alloc ?_ _)); refine blk_put (cs := #[.int .i64 0, .int .i64 0, .string (⟨#[]⟩ : ByteArray), .slice none 0 0, .slice none 0 0]) ?_ 0 _ rfl; (with_reducible repeat (first | refine blk_drewN ?_ _ | refine blk_drew ?_ | refine blk_alloc ?_ _)); exact BK1398.out) hb); have n2_ := Aside0.mk (below_step (by repeat (first | (with_reducible first | exact HB.out | apply below_alloc | apply pw_below_drewN | apply below_drew1 | refine below_set ?_ GE1395.out | refine below_set ?_ GE1398.out) | exact HB.out)) hb); clear BK1395; clear BK1398; clear HB; have BK1395 := n0_; have BK1398 := n1_; have HB := n2_; clear n0_ n1_ n2_; (try clear hb); (try clear hb2); (try clear hk); (try clear hi)))
                (try simp only [Act.put, List.setIfInBounds_toArray, List.set_cons_zero, List.set_cons_succ])
                go_cut [5] (fun v5 wc => ∃ (kq : Nat) (x5_16 : ByteArray), v5 = .string x5_16 ∧ Aside0 (impl_indented.j1 kq a1 x5_16 l0_4 (l0_4.length : Int) x18_1 a0_0 a0_1 a0_2 l0_3 l0_4 ((rd_T25 l0_4 x18_1).f0) ((rd_T25 l0_4 x18_1).f1) ((rd_T25 l0_4 x18_1).f2) ((rd_T25 l0_4 x18_1).f3) ((rd_T25 l0_4 x18_1).f4) = some r) ∧ Aside0 (kq ≤ k1) ∧ Aside0 (wc.heap[gb1395]? = some (.cells #[.int .i64 a0_0, .int .i64 a0_1, .string a0_2, (.slice A0_3 l0_3.length c0_3), (.slice (some ad1397) l0_4.length c0_4)] 25 (0, 0))) ∧ Aside0 (wc.heap[gb1398]? = some (.cells #[.int .i64 ((rd_T25 l0_4 x18_1).f0), .int .i64 ((rd_T25 l0_4 x18_1).f1), .string ((rd_T25 l0_4 x18_1).f2), (.slice A1397_3 ((rd_T25 l0_4 x18_1).f3).length c1397_3), (.slice A1397_4 ((rd_T25 l0_4 x18_1).f4).length c1397_4)] 25 (0, 0))) ∧ Aside0 (Below w.heap.size w wc))
                case first =>
                  have H := HC17.out
                  clear HC17
                  by_cases c22 : a0_0 = 4
                  · rw [if_pos c22] at H
                    have c22b0 : (a0_0 == 4) = true := beq_iff_eq.mpr c22
                    have c22b1 : (a0_0 != 4) = false := bne_eq_false_iff_eq.mpr c22
                    clear c22
                    (first | rw [c22b0] | rw [c22b1] | (simp only [i64_w, i32_w]; rw [c22b0]) | skip)
                    by_cases c23 : (x5_1 ++ t1399).size + 1 ≤ 9223372036854775807
                    · rw [if_pos c23] at H
                      have c23b0 := eq_true c23
                      have c23b1 : decide ((x5_1 ++ t1399).size + 1 ≤ 9223372036854775807) = true := decide_eq_true c23
                      try have c23b2 : (9223372036854775807 < (x5_1 ++ t1399).size + 1) = False := eq_false (Nat.not_lt.2 c23)
                      try have c23b3 : (9223372036854775807 < x5_1.size + t1399.size + 1) = False := eq_false (by have h_ := c23; simp only [ByteArray.size_append'] at h_; omega)
                      have H' := Aside0.mk H
                      clear H
                      have hnb24 := NB1395_1398.out
                      have hnc24 := NB1398_1395.out
                      have hcz25_0 : w21.cell? ⟨gb1395, 0, none⟩ = some (.int .i64 a0_0) := (blk_cell BK1395.out 0).trans rfl
                      have hcz25_1 : w21.cell? ⟨gb1395, 1, none⟩ = some (.int .i64 a0_1) := (blk_cell BK1395.out 1).trans rfl
                      have hcz25_2 : w21.cell? ⟨gb1395, 2, none⟩ = some (.string a0_2) := (blk_cell BK1395.out 2).trans rfl
                      have hcz25_3 : w21.cell? ⟨gb1395, 3, none⟩ = some (.slice A0_3 l0_3.length c0_3) := (blk_cell BK1395.out 3).trans rfl
                      have hcz25_4 : w21.cell? ⟨gb1395, 4, none⟩ = some (.slice (some ad1397) l0_4.length c0_4) := (blk_cell BK1395.out 4).trans rfl
                      have hfz25_0 := blk_frozen BK1395.out 0
                      have hfz25_1 := blk_frozen BK1395.out 1
                      have hfz25_2 := blk_frozen BK1395.out 2
                      have hfz25_3 := blk_frozen BK1395.out 3
                      have hfz25_4 := blk_frozen BK1395.out 4
                      go_wp2
                      go_meet
                      case rel => exact ⟨_, ((x5_1 ++ t1399) ++ (⟨#[45]⟩ : ByteArray)), (by first | rfl | (simp; done) | (simp [*]; done)), H', ⟨by have := HK1.out; first | omega | exact Nat.le_refl _⟩, ⟨by (with_reducible repeat (first | refine blk_drewN ?_ _ | refine blk_drew ?_ | refine blk_alloc ?_ _)); exact BK1395.out⟩, ⟨by (with_reducible repeat (first | refine blk_drewN ?_ _ | refine blk_drew ?_ | refine blk_alloc ?_ _)); exact BK1398.out⟩, ⟨by repeat (first | (with_reducible first | exact HB.out | apply below_alloc | apply pw_below_drewN | apply below_drew1 | refine below_set ?_ GE1395.out | refine below_set ?_ GE1398.out) | exact HB.out)⟩⟩
                    · rw [if_neg c23] at H
                      exact absurd H (by simp)
                  · rw [if_neg c22] at H
                    have c22b0 : (a0_0 == 4) = false := beq_eq_false_iff_ne.mpr c22
                    have c22b1 : (a0_0 != 4) = true := bne_iff_ne.mpr c22
                    (first | rw [c22b0] | rw [c22b1] | (simp only [i64_w, i32_w]; rw [c22b0]) | skip)
                    by_cases c26 : x18_1 < (l0_3.length : Int)
                    · rw [if_pos c26] at H
                      have c26b0 : decide (x18_1 < (l0_3.length : Int)) = true := decide_eq_true c26
                      clear c26
                      replace H := Option.bind_eq_some_iff.mp H
                      obtain ⟨t1401, A270, H⟩ := H
                      replace H : (if t1401 = true then (if (rdOf ByteArray.empty l0_3 x18_1).size + 1 ≤ 9223372036854775807 then (if (x5_1 ++ t1399).size + ((rdOf ByteArray.empty l0_3 x18_1) ++ (⟨#[58]⟩ : ByteArray)).size ≤ 9223372036854775807 then (impl_indented.j1 k1 a1 ((x5_1 ++ t1399) ++ ((rdOf ByteArray.empty l0_3 x18_1) ++ (⟨#[58]⟩ : ByteArray))) l0_4 (l0_4.length : Int) x18_1 a0_0 a0_1 a0_2 l0_3 l0_4 ((rd_T25 l0_4 x18_1).f0) ((rd_T25 l0_4 x18_1).f1) ((rd_T25 l0_4 x18_1).f2) ((rd_T25 l0_4 x18_1).f3) ((rd_T25 l0_4 x18_1).f4)) else (none)) else (none)) else ((impl_Quote.f k1 (rdOf ByteArray.empty l0_3 x18_1)).bind fun t1404 => (if t1404.size + 1 ≤ 9223372036854775807 then (if (x5_1 ++ t1399).size + (t1404 ++ (⟨#[58]⟩ : ByteArray)).size ≤ 9223372036854775807 then (impl_indented.j1 k1 a1 ((x5_1 ++ t1399) ++ (t1404 ++ (⟨#[58]⟩ : ByteArray))) l0_4 (l0_4.length : Int) x18_1 a0_0 a0_1 a0_2 l0_3 l0_4 ((rd_T25 l0_4 x18_1).f0) ((rd_T25 l0_4 x18_1).f1) ((rd_T25 l0_4 x18_1).f2) ((rd_T25 l0_4 x18_1).f3) ((rd_T25 l0_4 x18_1).f4)) else (none)) else (none)))) = some r := H
                      have A27 := Aside0.mk A270
                      clear A270
                      have HC28 := Aside0.mk H
                      clear H
                      have hnb29 := NB1395_1398.out
                      have hnc29 := NB1398_1395.out
                      have hcz30_0 : w21.cell? ⟨gb1395, 0, none⟩ = some (.int .i64 a0_0) := (blk_cell BK1395.out 0).trans rfl
                      have hcz30_1 : w21.cell? ⟨gb1395, 1, none⟩ = some (.int .i64 a0_1) := (blk_cell BK1395.out 1).trans rfl
                      have hcz30_2 : w21.cell? ⟨gb1395, 2, none⟩ = some (.string a0_2) := (blk_cell BK1395.out 2).trans rfl
                      have hcz30_3 : w21.cell? ⟨gb1395, 3, none⟩ = some (.slice A0_3 l0_3.length c0_3) := (blk_cell BK1395.out 3).trans rfl
                      have hcz30_4 : w21.cell? ⟨gb1395, 4, none⟩ = some (.slice (some ad1397) l0_4.length c0_4) := (blk_cell BK1395.out 4).trans rfl
                      have hfz30_0 := blk_frozen BK1395.out 0
                      have hfz30_1 := blk_frozen BK1395.out 1
                      have hfz30_2 := blk_frozen BK1395.out 2
                      have hfz30_3 := blk_frozen BK1395.out 3
                      have hfz30_4 := blk_frozen BK1395.out 4
                      have p1400 : 0 ≤ (x18_1 : Int) := of_decide_eq_true (by first | (with_reducible assumption) | assumption)
                      have q1400 : x18_1 < (l0_3.length : Int) := of_decide_eq_true (by first | (with_reducible assumption) | assumption)
                      obtain ⟨ad1400, e1400, hx1400_0⟩ := Kd.at_string HR0_3.out x18_1 p1400 q1400
                      cases e1400
                      replace hx1400_0 := (HB.out.cell (World.block_lt_of_cell? w _ hx1400_0)).trans hx1400_0
                      replace p1400 := eq_true p1400
                      replace q1400 := eq_true q1400
                      go_upto_if 42 with (first | ((with_reducible refine gate_callee (f := 114) rfl ?_); refine goesL_ (some 48) rfl rfl Try.func114 (by kernel_rfl) rfl #[.string (rdOf ByteArray.empty l0_3 x18_1)] rfl (by (try simp only [List.map_toArray, List.map_cons, List.map_nil]); first | done | rfl | (simp only [List.length_drop, List.length_take]; rfl)) ?_; (with_reducible refine (impl_PlainOk.calls k1 (rdOf ByteArray.empty l0_3 x18_1) t1401 _ A27.out).mono ?_); rintro e w' ⟨rfl, ⟨nd, rfl⟩⟩; refine ⟨_, rfl, ?_⟩))
                      (try simp only [Act.put, List.setIfInBounds_toArray, List.set_cons_zero, List.set_cons_succ])
                      try clear hx1400_0
                      have H := HC28.out
                      clear HC28
                      by_cases c31 : t1401 = true
                      · subst c31
                        have H1 : (if (rdOf ByteArray.empty l0_3 x18_1).size + 1 ≤ 9223372036854775807 then (if (x5_1 ++ t1399).size + ((rdOf ByteArray.empty l0_3 x18_1) ++ (⟨#[58]⟩ : ByteArray)).size ≤ 9223372036854775807 then (impl_indented.j1 k1 a1 ((x5_1 ++ t1399) ++ ((rdOf ByteArray.empty l0_3 x18_1) ++ (⟨#[58]⟩ : ByteArray))) l0_4 (l0_4.length : Int) x18_1 a0_0 a0_1 a0_2 l0_3 l0_4 ((rd_T25 l0_4 x18_1).f0) ((rd_T25 l0_4 x18_1).f1) ((rd_T25 l0_4 x18_1).f2) ((rd_T25 l0_4 x18_1).f3) ((rd_T25 l0_4 x18_1).f4)) else (none)) else (none)) = some r := by rw [if_pos rfl] at H; exact H
                        clear H
                        have H := H1
                        clear H1
                        by_cases c32 : (rdOf ByteArray.empty l0_3 x18_1).size + 1 ≤ 9223372036854775807
                        · rw [if_pos c32] at H
                          have c32b0 := eq_true c32
                          have c32b1 : decide ((rdOf ByteArray.empty l0_3 x18_1).size + 1 ≤ 9223372036854775807) = true := decide_eq_true c32
                          try have c32b2 : (9223372036854775807 < (rdOf ByteArray.empty l0_3 x18_1).size + 1) = False := eq_false (Nat.not_lt.2 c32)
                          by_cases c33 : (x5_1 ++ t1399).size + ((rdOf ByteArray.empty l0_3 x18_1) ++ (⟨#[58]⟩ : ByteArray)).size ≤ 9223372036854775807
                          · rw [if_pos c33] at H
                            have c33b0 := eq_true c33
                            have c33b1 : decide ((x5_1 ++ t1399).size + ((rdOf ByteArray.empty l0_3 x18_1) ++ (⟨#[58]⟩ : ByteArray)).size ≤ 9223372036854775807) = true := decide_eq_true c33
                            try have c33b2 : (9223372036854775807 < (x5_1 ++ t1399).size + ((rdOf ByteArray.empty l0_3 x18_1) ++ (⟨#[58]⟩ : ByteArray)).size) = False := eq_false (Nat.not_lt.2 c33)
                            have H' := Aside0.mk H
                            clear H
                            have hnb34 := NB1395_1398.out
                            have hnc34 := NB1398_1395.out
                            have hcz35_0 : w21.cell? ⟨gb1395, 0, none⟩ = some (.int .i64 a0_0) := (blk_cell BK1395.out 0).trans rfl
                            have hcz35_1 : w21.cell? ⟨gb1395, 1, none⟩ = some (.int .i64 a0_1) := (blk_cell BK1395.out 1).trans rfl
                            have hcz35_2 : w21.cell? ⟨gb1395, 2, none⟩ = some (.string a0_2) := (blk_cell BK1395.out 2).trans rfl
                            have hcz35_3 : w21.cell? ⟨gb1395, 3, none⟩ = some (.slice (some ad1400) l0_3.length c0_3) := (blk_cell BK1395.out 3).trans rfl
                            have hcz35_4 : w21.cell? ⟨gb1395, 4, none⟩ = some (.slice (some ad1397) l0_4.length c0_4) := (blk_cell BK1395.out 4).trans rfl
                            have hfz35_0 := blk_frozen BK1395.out 0
                            have hfz35_1 := blk_frozen BK1395.out 1
                            have hfz35_2 := blk_frozen BK1395.out 2
                            have hfz35_3 := blk_frozen BK1395.out 3
                            have hfz35_4 := blk_frozen BK1395.out 4
                            have p1402 : 0 ≤ (x18_1 : Int) := of_decide_eq_true (by first | (with_reducible assumption) | assumption)
                            have q1402 : x18_1 < (l0_3.length : Int) := of_decide_eq_true (by first | (with_reducible assumption) | assumption)
                            obtain ⟨ad1402, e1402, hx1402_0⟩ := Kd.at_string HR0_3.out x18_1 p1402 q1402
                            obtain rfl : ad1400 = ad1402 := (by injection e1402)
                            replace hx1402_0 := (HB.out.cell (World.block_lt_of_cell? w _ hx1402_0)).trans hx1402_0
                            replace p1402 := eq_true p1402
                            replace q1402 := eq_true q1402
                            go_wp2
                            go_meet
                            case rel => exact ⟨_, ((x5_1 ++ t1399) ++ ((rdOf ByteArray.empty l0_3 x18_1) ++ (⟨#[58]⟩ : ByteArray))), (by first | rfl | (simp; done) | (simp [*]; done)), H', ⟨by have := HK1.out; first | omega | exact Nat.le_refl _⟩, ⟨by (with_reducible repeat (first | refine blk_drewN ?_ _ | refine blk_drew ?_ | refine blk_alloc ?_ _)); exact BK1395.out⟩, ⟨by (with_reducible repeat (first | refine blk_drewN ?_ _ | refine blk_drew ?_ | refine blk_alloc ?_ _)); exact BK1398.out⟩, ⟨by repeat (first | (with_reducible first | exact HB.out | apply below_alloc | apply pw_below_drewN | apply below_drew1 | refine below_set ?_ GE1395.out | refine below_set ?_ GE1398.out) | exact HB.out)⟩⟩
                          · rw [if_neg c33] at H
                            exact absurd H (by simp)
                        · rw [if_neg c32] at H
                          exact absurd H (by simp)
                      · replace c31 := Bool.eq_false_iff.mpr c31
                        subst c31
                        have H1 : ((impl_Quote.f k1 (rdOf ByteArray.empty l0_3 x18_1)).bind fun t1404 => (if t1404.size + 1 ≤ 9223372036854775807 then (if (x5_1 ++ t1399).size + (t1404 ++ (⟨#[58]⟩ : ByteArray)).size ≤ 9223372036854775807 then (impl_indented.j1 k1 a1 ((x5_1 ++ t1399) ++ (t1404 ++ (⟨#[58]⟩ : ByteArray))) l0_4 (l0_4.length : Int) x18_1 a0_0 a0_1 a0_2 l0_3 l0_4 ((rd_T25 l0_4 x18_1).f0) ((rd_T25 l0_4 x18_1).f1) ((rd_T25 l0_4 x18_1).f2) ((rd_T25 l0_4 x18_1).f3) ((rd_T25 l0_4 x18_1).f4)) else (none)) else (none))) = some r := by rw [if_neg (show ¬ (false = true) by decide)] at H; exact H
                        clear H
                        have H := H1
                        clear H1
                        replace H := Option.bind_eq_some_iff.mp H
                        obtain ⟨t1404, A360, H⟩ := H
                        replace H : (if t1404.size + 1 ≤ 9223372036854775807 then (if (x5_1 ++ t1399).size + (t1404 ++ (⟨#[58]⟩ : ByteArray)).size ≤ 9223372036854775807 then (impl_indented.j1 k1 a1 ((x5_1 ++ t1399) ++ (t1404 ++ (⟨#[58]⟩ : ByteArray))) l0_4 (l0_4.length : Int) x18_1 a0_0 a0_1 a0_2 l0_3 l0_4 ((rd_T25 l0_4 x18_1).f0) ((rd_T25 l0_4 x18_1).f1) ((rd_T25 l0_4 x18_1).f2) ((rd_T25 l0_4 x18_1).f3) ((rd_T25 l0_4 x18_1).f4)) else (none)) else (none)) = some r := H
                        have A36 := Aside0.mk A360
                        clear A360
                        by_cases c37 : t1404.size + 1 ≤ 9223372036854775807
                        · rw [if_pos c37] at H
                          have c37b0 := eq_true c37
                          have c37b1 : decide (t1404.size + 1 ≤ 9223372036854775807) = true := decide_eq_true c37
                          try have c37b2 : (9223372036854775807 < t1404.size + 1) = False := eq_false (Nat.not_lt.2 c37)
                          by_cases c38 : (x5_1 ++ t1399).size + (t1404 ++ (⟨#[58]⟩ : ByteArray)).size ≤ 9223372036854775807
                          · rw [if_pos c38] at H
                            have c38b0 := eq_true c38
                            have c38b1 : decide ((x5_1 ++ t1399).size + (t1404 ++ (⟨#[58]⟩ : ByteArray)).size ≤ 9223372036854775807) = true := decide_eq_true c38
                            try have c38b2 : (9223372036854775807 < (x5_1 ++ t1399).size + (t1404 ++ (⟨#[58]⟩ : ByteArray)).size) = False := eq_false (Nat.not_lt.2 c38)
                            try have c38b3 : (9223372036854775807 < x5_1.size + t1399.size + t1404.size + 1) = False := eq_false (by have h_ := c38; have l0_ : (⟨#[58]⟩ : ByteArray).size = 1 := rfl; simp only [ByteArray.size_append'] at h_; omega)
                            have H' := Aside0.mk H
                            clear H
                            have hnb39 := NB1395_1398.out
                            have hnc39 := NB1398_1395.out
                            have hcz40_0 : w21.cell? ⟨gb1395, 0, none⟩ = some (.int .i64 a0_0) := (blk_cell BK1395.out 0).trans rfl
                            have hcz40_1 : w21.cell? ⟨gb1395, 1, none⟩ = some (.int .i64 a0_1) := (blk_cell BK1395.out 1).trans rfl
                            have hcz40_2 : w21.cell? ⟨gb1395, 2, none⟩ = some (.string a0_2) := (blk_cell BK1395.out 2).trans rfl
                            have hcz40_3 : w21.cell? ⟨gb1395, 3, none⟩ = some (.slice (some ad1400) l0_3.length c0_3) := (blk_cell BK1395.out 3).trans rfl
                            have hcz40_4 : w21.cell? ⟨gb1395, 4, none⟩ = some (.slice (some ad1397) l0_4.length c0_4) := (blk_cell BK1395.out 4).trans rfl
                            have hfz40_0 := blk_frozen BK1395.out 0
                            have hfz40_1 := blk_frozen BK1395.out 1
                            have hfz40_2 := blk_frozen BK1395.out 2
                            have hfz40_3 := blk_frozen BK1395.out 3
                            have hfz40_4 := blk_frozen BK1395.out 4
                            have p1403 : 0 ≤ (x18_1 : Int) := of_decide_eq_true (by first | (with_reducible assumption) | assumption)
                            have q1403 : x18_1 < (l0_3.length : Int) := of_decide_eq_true (by first | (with_reducible assumption) | assumption)
                            obtain ⟨ad1403, e1403, hx1403_0⟩ := Kd.at_string HR0_3.out x18_1 p1403 q1403
                            obtain rfl : ad1400 = ad1403 := (by injection e1403)
                            replace hx1403_0 := (HB.out.cell (World.block_lt_of_cell? w _ hx1403_0)).trans hx1403_0
                            replace p1403 := eq_true p1403
                            replace q1403 := eq_true q1403
                            go_wp2_with (first | ((with_reducible refine gate_callee (f := 141) rfl ?_); refine goesL_ (some 33) rfl rfl Try.func141 (by kernel_rfl) rfl #[.string (rdOf ByteArray.empty l0_3 x18_1)] rfl (by (try simp only [List.map_toArray, List.map_cons, List.map_nil]); first | done | rfl | (simp only [List.length_drop, List.length_take]; rfl)) ?_; (with_reducible refine (impl_Quote.calls k1 (rdOf ByteArray.empty l0_3 x18_1) t1404 _ A36.out).mono ?_); rintro e w41 ⟨rfl, hb⟩; refine ⟨_, rfl, ?_⟩; have n0_ := Aside0.mk (blk_below (g := gb1395) (o := .cells #[.int .i64 a0_0, .int .i64 a0_1, .string a0_2, .slice (some ad1400) l0_3.length c0_3, .slice (some ad1397) l0_4.length c0_4] 25 (0, 0)) (by (with_reducible repeat (first | refine blk_drewN ?_ _ | refine blk_drew ?_ | refine blk_alloc ?_ _)); exact BK1395.out) hb); have n1_ := Aside0.mk (blk_below (g := gb1398) (o := .cells #[.int .i64 ((rd_T25 l0_4 x18_1).f0), .int .i64 ((rd_T25 l0_4 x18_1).f1), .string ((rd_T25 l0_4 x18_1).f2), .slice A1397_3 ((rd_T25 l0_4 x18_1).f3).length c1397_3, .slice A1397_4 ((rd_T25 l0_4 x18_1).f4).length c1397_4] 25 (0, 0)) (by (with_reducible repeat (first | refine blk_drewN ?_ _ | refine blk_drew ?_ | refine blk_alloc ?_ _)); exact BK1398.out) hb); have n2_ := Aside0.mk (below_step (by repeat (first | (with_reducible first | exact HB.out | apply below_alloc | apply pw_below_drewN | apply below_drew1 | refine below_set ?_ GE1395.out | refine below_set ?_ GE1398.out) | exact HB.out)) hb); clear BK1395; clear BK1398; clear HB; have BK1395 := n0_; have BK1398 := n1_; have HB := n2_; clear n0_ n1_ n2_; (try clear hb); (try clear hb2); (try clear hk); (try clear hi)))
                            go_meet
                            case rel => exact ⟨_, ((x5_1 ++ t1399) ++ (t1404 ++ (⟨#[58]⟩ : ByteArray))), (by first | rfl | (simp; done) | (simp [*]; done)), H', ⟨by have := HK1.out; first | omega | exact Nat.le_refl _⟩, ⟨by (with_reducible repeat (first | refine blk_drewN ?_ _ | refine blk_drew ?_ | refine blk_alloc ?_ _)); exact BK1395.out⟩, ⟨by (with_reducible repeat (first | refine blk_drewN ?_ _ | refine blk_drew ?_ | refine blk_alloc ?_ _)); exact BK1398.out⟩, ⟨by repeat (first | (with_reducible first | exact HB.out | apply below_alloc | apply pw_below_drewN | apply below_drew1 | refine below_set ?_ GE1395.out | refine below_set ?_ GE1398.out) | exact HB.out)⟩⟩
                          · rw [if_neg c38] at H
                            exact absurd H (by simp)
                        · rw [if_neg c37] at H
                          exact absurd H (by simp)
                    · rw [if_neg c26] at H
                      exact absurd H (by simp)
                case rest =>
                  clear HC17
                  try clear c1
                  try clear p1
                  try clear q1
                  try clear hx1
                  try clear c2
                  try clear p2
                  try clear c3
                  try clear c6
                  try clear c6b0
                  try clear c6b1
                  try clear c6b2
                  try clear c8
                  try clear c8b0
                  try clear c8b1
                  try clear c8b2
                  try clear c11
                  try clear c12
                  try clear c12b0
                  try clear c13
                  try clear c13b0
                  try clear p13
                  try clear q13
                  try clear hx13
                  try clear c14
                  try clear c14b0
                  try clear p14
                  try clear q14
                  try clear hx14
                  try clear c16
                  try clear c16b0
                  try clear c16b1
                  try clear c16b2
                  try clear c19
                  try clear c22
                  try clear c22b0
                  try clear c22b1
                  try clear c23
                  try clear c23b0
                  try clear c23b1
                  try clear c23b2
                  try clear c24
                  try clear c26
                  try clear c26b0
                  try clear c29
                  try clear c31
                  try clear c32
                  try clear c32b0
                  try clear c32b1
                  try clear c32b2
                  try clear c33
                  try clear c33b0
                  try clear c33b1
                  try clear c33b2
                  try clear c34
                  try clear c37
                  try clear c37b0
                  try clear c37b1
                  try clear c37b2
                  try clear c38
                  try clear c38b0
                  try clear c38b1
                  try clear c38b2
                  try clear c39
                  try clear hcz11_0
                  try clear hcz11_1
                  try clear hcz11_2
                  try clear hcz11_3
                  try clear hcz11_4
                  try clear hcz20_0
                  try clear hcz20_1
                  try clear hcz20_2
                  try clear hcz20_3
                  try clear hcz20_4
                  try clear hcz25_0
                  try clear hcz25_1
                  try clear hcz25_2
                  try clear hcz25_3
                  try clear hcz25_4
                  try clear hcz30_0
                  try clear hcz30_1
                  try clear hcz30_2
                  try clear hcz30_3
                  try clear hcz30_4
                  try clear hcz35_0
                  try clear hcz35_1
                  try clear hcz35_2
                  try clear hcz35_3
                  try clear hcz35_4
                  try clear hcz40_0
                  try clear hcz40_1
                  try clear hcz40_2
                  try clear hcz40_3
                  try clear hcz40_4
                  try clear hcz5_0
                  try clear hcz5_1
                  try clear hcz5_2
                  try clear hcz5_3
                  try clear hcz5_4
                  try clear hcz9_0
                  try clear hcz9_1
                  try clear hcz9_2
                  try clear hcz9_3
                  try clear hcz9_4
                  try clear hfz11_0
                  try clear hfz11_1
                  try clear hfz11_2
                  try clear hfz11_3
                  try clear hfz11_4
                  try clear hfz20_0
                  try clear hfz20_1
                  try clear hfz20_2
                  try clear hfz20_3
                  try clear hfz20_4
                  try clear hfz25_0
                  try clear hfz25_1
                  try clear hfz25_2
                  try clear hfz25_3
                  try clear hfz25_4
                  try clear hfz30_0
                  try clear hfz30_1
                  try clear hfz30_2
                  try clear hfz30_3
                  try clear hfz30_4
                  try clear hfz35_0
                  try clear hfz35_1
                  try clear hfz35_2
                  try clear hfz35_3
                  try clear hfz35_4
                  try clear hfz40_0
                  try clear hfz40_1
                  try clear hfz40_2
                  try clear hfz40_3
                  try clear hfz40_4
                  try clear hfz5_0
                  try clear hfz5_1
                  try clear hfz5_2
                  try clear hfz5_3
                  try clear hfz5_4
                  try clear hfz9_0
                  try clear hfz9_1
                  try clear hfz9_2
                  try clear hfz9_3
                  try clear hfz9_4
                  try clear hx1397_0
                  try clear hx1397_1
                  try clear hx1397_2
                  try clear hx1397_3
                  try clear hx1397_4
                  try clear hx1400_0
                  try clear hx1402_0
                  try clear hx1403_0
                  try clear p1397
                  try clear p1400
                  try clear p1402
                  try clear p1403
                  try clear p2
                  try clear q1397
                  try clear q1400
                  try clear q1402
                  try clear q1403
                  obtain ⟨kq, x5_16, rfl, HA, HJ16, BK1395, BK1398, HB⟩ := hcut
                  cases kq with
                  | zero => exact absurd HA.out (by simp [impl_indented.j1])
                  | succ kj16 =>
                    have H := HA.out
                    clear HA
                    simp only [impl_indented.j1] at H
                    by_cases c42 : (((rd_T25 l0_4 x18_1).f4).length : Int) > 0
                    · rw [if_pos c42] at H
                      have c42b0 : decide (0 < (((rd_T25 l0_4 x18_1).f4).length : Int)) = true := decide_eq_true c42
                      have c42b1 : decide (0 < ((rd_T25 l0_4 x18_1).f4).length) = true := decide_eq_true (by omega)
                      clear c42
                      replace H := Option.bind_eq_some_iff.mp H
                      obtain ⟨t1405, A430, H⟩ := H
                      replace H : (if 1 + t1405.size ≤ 9223372036854775807 then (if x5_16.size + ((⟨#[10]⟩ : ByteArray) ++ t1405).size ≤ 9223372036854775807 then (impl_indented.l0 kj16 a1 (x5_16 ++ ((⟨#[10]⟩ : ByteArray) ++ t1405)) l0_4 (l0_4.length : Int) (wrap64 (x18_1 + 1)) a0_0 a0_1 a0_2 l0_3 l0_4) else (none)) else (none)) = some r := H
                      have A43 := Aside0.mk A430
                      clear A430
                      by_cases c44 : 1 + t1405.size ≤ 9223372036854775807
                      · rw [if_pos c44] at H
                        have c44b0 := eq_true c44
                        have c44b1 : decide (1 + t1405.size ≤ 9223372036854775807) = true := decide_eq_true c44
                        try have c44b2 : (9223372036854775807 < 1 + t1405.size) = False := eq_false (Nat.not_lt.2 c44)
                        by_cases c45 : x5_16.size + ((⟨#[10]⟩ : ByteArray) ++ t1405).size ≤ 9223372036854775807
                        · rw [if_pos c45] at H
                          have c45b0 := eq_true c45
                          have c45b1 : decide (x5_16.size + ((⟨#[10]⟩ : ByteArray) ++ t1405).size ≤ 9223372036854775807) = true := decide_eq_true c45
                          try have c45b2 : (9223372036854775807 < x5_16.size + ((⟨#[10]⟩ : ByteArray) ++ t1405).size) = False := eq_false (Nat.not_lt.2 c45)
                          try have c45b3 : (9223372036854775807 < x5_16.size + 1 + t1405.size) = False := eq_false (by have h_ := c45; have l0_ : (⟨#[10]⟩ : ByteArray).size = 1 := rfl; simp only [ByteArray.size_append'] at h_; omega)
                          have H' := Aside0.mk H
                          clear H
                          have hnb46 := NB1398_1395.out
                          have hnc46 := NB1395_1398.out
                          have hcz47_0 : wc.cell? ⟨gb1398, 0, none⟩ = some (.int .i64 ((rd_T25 l0_4 x18_1).f0)) := (blk_cell BK1398.out 0).trans rfl
                          have hcz47_1 : wc.cell? ⟨gb1398, 1, none⟩ = some (.int .i64 ((rd_T25 l0_4 x18_1).f1)) := (blk_cell BK1398.out 1).trans rfl
                          have hcz47_2 : wc.cell? ⟨gb1398, 2, none⟩ = some (.string ((rd_T25 l0_4 x18_1).f2)) := (blk_cell BK1398.out 2).trans rfl
                          have hcz47_3 : wc.cell? ⟨gb1398, 3, none⟩ = some (.slice A1397_3 ((rd_T25 l0_4 x18_1).f3).length c1397_3) := (blk_cell BK1398.out 3).trans rfl
                          have hcz47_4 : wc.cell? ⟨gb1398, 4, none⟩ = some (.slice A1397_4 ((rd_T25 l0_4 x18_1).f4).length c1397_4) := (blk_cell BK1398.out 4).trans rfl
                          have hfz47_0 := blk_frozen BK1398.out 0
                          have hfz47_1 := blk_frozen BK1398.out 1
                          have hfz47_2 := blk_frozen BK1398.out 2
                          have hfz47_3 := blk_frozen BK1398.out 3
                          have hfz47_4 := blk_frozen BK1398.out 4
                          go_wp2_with (first | ((with_reducible refine gate_callee (f := 121) rfl ?_); refine goesL_ (some 65) rfl rfl Try.func121 (by kernel_rfl) rfl #[.agg #[.int .i64 ((rd_T25 l0_4 x18_1).f0), .int .i64 ((rd_T25 l0_4 x18_1).f1), .string ((rd_T25 l0_4 x18_1).f2), .slice A1397_3 ((rd_T25 l0_4 x18_1).f3).length c1397_3, .slice A1397_4 ((rd_T25 l0_4 x18_1).f4).length c1397_4], .int .i64 (wrap64 (a1 + 2))] rfl (by (try simp only [List.map_toArray, List.map_cons, List.map_nil]); first | done | rfl | (simp only [List.length_drop, List.length_take]; rfl)) ?_; (with_reducible refine (ih kj16 (by have := HK1.out; have := HJ16.out; omega) ((rd_T25 l0_4 x18_1).f0) ((rd_T25 l0_4 x18_1).f1) ((rd_T25 l0_4 x18_1).f2) _ _ ((rd_T25 l0_4 x18_1).f3) _ _ ((rd_T25 l0_4 x18_1).f4) (wrap64 (a1 + 2)) t1405 _ ?side1 ?side2 ?side3 ?side4 A43.out).mono ?_); (case side1 => repeat (first | exact (Kd.C_below HR1397_3.out HB.out) | (with_reducible refine Kd.C_alloc ?_ _) | (with_reducible refine Kd.C_drewN ?_ _) | (with_reducible refine Kd.C_drew ?_))); (case side2 => exact HC1397_3.out); (case side3 => repeat (first | exact (Kd.C_below HR1397_4.out HB.out) | (with_reducible refine Kd.C_alloc ?_ _) | (with_reducible refine Kd.C_drewN ?_ _) | (with_reducible refine Kd.C_drew ?_))); (case side4 => exact HC1397_4.out); rintro e w48 ⟨rfl, hb⟩; refine ⟨_, rfl, ?_⟩; have n0_ := Aside0.mk (blk_below (g := gb1395) (o := .cells #[.int .i64 a0_0, .int .i64 a0_1, .string a0_2, .slice A0_3 l0_3.length c0_3, .slice (some ad1397) l0_4.length c0_4] 25 (0, 0)) (by (with_reducible repeat (first | refine blk_drewN ?_ _ | refine blk_drew ?_ | refine blk_alloc ?_ _)); exact BK1395.out) hb); have n1_ := Aside0.mk (blk_below (g := gb1398) (o := .cells #[.int .i64 ((rd_T25 l0_4 x18_1).f0), .int .i64 ((rd_T25 l0_4 x18_1).f1), .string ((rd_T25 l0_4 x18_1).f2), .slice A1397_3 ((rd_T25 l0_4 x18_1).f3).length c1397_3, .slice A1397_4 ((rd_T25 l0_4 x18_1).f4).length c1397_4] 25 (0, 0)) (by (with_reducible repeat (first | refine blk_drewN ?_ _ | refine blk_drew ?_ | refine blk_alloc ?_ _)); exact BK1398.out) hb); have n2_ := Aside0.mk (below_step (by repeat (first | (with_reducible first | exact HB.out | apply below_alloc | apply pw_below_drewN | apply below_drew1 | refine below_set ?_ GE1395.out | refine below_set ?_ GE1398.out) | exact HB.out)) hb); clear BK1395; clear BK1398; clear HB; have BK1395 := n0_; have BK1398 := n1_; have HB := n2_; clear n0_ n1_ n2_; (try clear hb); (try clear hb2); (try clear hk); (try clear hi)))
                          go_roundg kj16
                          case measure => have := HK1.out; have := HJ16.out; omega
                          case rel => exact ⟨(x5_16 ++ ((⟨#[10]⟩ : ByteArray) ++ t1405)), (wrap64 (x18_1 + 1)), (by first | rfl | (simp; done) | (simp [*]; done)), (by first | rfl | (simp; done) | (simp [*]; done)), H', ⟨by have := HK1.out; have := HJ16.out; omega⟩, ⟨by (with_reducible repeat (first | refine blk_drewN ?_ _ | refine blk_drew ?_ | refine blk_alloc ?_ _)); exact BK1395.out⟩, ⟨by repeat (first | (with_reducible first | exact HB.out | apply below_alloc | apply pw_below_drewN | apply below_drew1 | refine below_set ?_ GE1395.out | refine below_set ?_ GE1398.out) | exact HB.out)⟩⟩
                        · rw [if_neg c45] at H
                          exact absurd H (by simp)
                      · rw [if_neg c44] at H
                        exact absurd H (by simp)
                    · rw [if_neg c42] at H
                      have c42b0 : decide (0 < (((rd_T25 l0_4 x18_1).f4).length : Int)) = false := decide_eq_false c42
                      have c42b1 : decide (0 < ((rd_T25 l0_4 x18_1).f4).length) = false := decide_eq_false (by omega)
                      clear c42
                      replace H := Option.bind_eq_some_iff.mp H
                      obtain ⟨t1406, A490, H⟩ := H
                      replace H : (if 1 + t1406.size ≤ 9223372036854775807 then (if ((⟨#[32]⟩ : ByteArray) ++ t1406).size + 1 ≤ 9223372036854775807 then (if x5_16.size + (((⟨#[32]⟩ : ByteArray) ++ t1406) ++ (⟨#[10]⟩ : ByteArray)).size ≤ 9223372036854775807 then (impl_indented.l0 kj16 a1 (x5_16 ++ (((⟨#[32]⟩ : ByteArray) ++ t1406) ++ (⟨#[10]⟩ : ByteArray))) l0_4 (l0_4.length : Int) (wrap64 (x18_1 + 1)) a0_0 a0_1 a0_2 l0_3 l0_4) else (none)) else (none)) else (none)) = some r := H
                      have A49 := Aside0.mk A490
                      clear A490
                      by_cases c50 : 1 + t1406.size ≤ 9223372036854775807
                      · rw [if_pos c50] at H
                        have c50b0 := eq_true c50
                        have c50b1 : decide (1 + t1406.size ≤ 9223372036854775807) = true := decide_eq_true c50
                        try have c50b2 : (9223372036854775807 < 1 + t1406.size) = False := eq_false (Nat.not_lt.2 c50)
                        by_cases c51 : ((⟨#[32]⟩ : ByteArray) ++ t1406).size + 1 ≤ 9223372036854775807
                        · rw [if_pos c51] at H
                          have c51b0 := eq_true c51
                          have c51b1 : decide (((⟨#[32]⟩ : ByteArray) ++ t1406).size + 1 ≤ 9223372036854775807) = true := decide_eq_true c51
                          try have c51b2 : (9223372036854775807 < ((⟨#[32]⟩ : ByteArray) ++ t1406).size + 1) = False := eq_false (Nat.not_lt.2 c51)
                          try have c51b3 : (9223372036854775807 < 1 + t1406.size + 1) = False := eq_false (by have h_ := c51; have l0_ : (⟨#[32]⟩ : ByteArray).size = 1 := rfl; simp only [ByteArray.size_append'] at h_; omega)
                          by_cases c52 : x5_16.size + (((⟨#[32]⟩ : ByteArray) ++ t1406) ++ (⟨#[10]⟩ : ByteArray)).size ≤ 9223372036854775807
                          · rw [if_pos c52] at H
                            have c52b0 := eq_true c52
                            have c52b1 : decide (x5_16.size + (((⟨#[32]⟩ : ByteArray) ++ t1406) ++ (⟨#[10]⟩ : ByteArray)).size ≤ 9223372036854775807) = true := decide_eq_true c52
                            try have c52b2 : (9223372036854775807 < x5_16.size + (((⟨#[32]⟩ : ByteArray) ++ t1406) ++ (⟨#[10]⟩ : ByteArray)).size) = False := eq_false (Nat.not_lt.2 c52)
                            try have c52b3 : (9223372036854775807 < x5_16.size + 1 + t1406.size + 1) = False := eq_false (by have h_ := c52; have l0_ : (⟨#[10]⟩ : ByteArray).size = 1 := rfl; have l1_ : (⟨#[32]⟩ : ByteArray).size = 1 := rfl; simp only [ByteArray.size_append'] at h_; omega)
                            have H' := Aside0.mk H
                            clear H
                            have hnb53 := NB1398_1395.out
                            have hnc53 := NB1395_1398.out
                            have hcz54_0 : wc.cell? ⟨gb1398, 0, none⟩ = some (.int .i64 ((rd_T25 l0_4 x18_1).f0)) := (blk_cell BK1398.out 0).trans rfl
                            have hcz54_1 : wc.cell? ⟨gb1398, 1, none⟩ = some (.int .i64 ((rd_T25 l0_4 x18_1).f1)) := (blk_cell BK1398.out 1).trans rfl
                            have hcz54_2 : wc.cell? ⟨gb1398, 2, none⟩ = some (.string ((rd_T25 l0_4 x18_1).f2)) := (blk_cell BK1398.out 2).trans rfl
                            have hcz54_3 : wc.cell? ⟨gb1398, 3, none⟩ = some (.slice A1397_3 ((rd_T25 l0_4 x18_1).f3).length c1397_3) := (blk_cell BK1398.out 3).trans rfl
                            have hcz54_4 : wc.cell? ⟨gb1398, 4, none⟩ = some (.slice A1397_4 ((rd_T25 l0_4 x18_1).f4).length c1397_4) := (blk_cell BK1398.out 4).trans rfl
                            have hfz54_0 := blk_frozen BK1398.out 0
                            have hfz54_1 := blk_frozen BK1398.out 1
                            have hfz54_2 := blk_frozen BK1398.out 2
                            have hfz54_3 := blk_frozen BK1398.out 3
                            have hfz54_4 := blk_frozen BK1398.out 4
                            go_wp2_with (first | ((with_reducible refine gate_callee (f := 61) rfl ?_); refine goesL_ (some 70) rfl rfl Try.func61 (by kernel_rfl) rfl #[.agg #[.int .i64 ((rd_T25 l0_4 x18_1).f0), .int .i64 ((rd_T25 l0_4 x18_1).f1), .string ((rd_T25 l0_4 x18_1).f2), .slice A1397_3 ((rd_T25 l0_4 x18_1).f3).length c1397_3, .slice A1397_4 ((rd_T25 l0_4 x18_1).f4).length c1397_4]] rfl (by (try simp only [List.map_toArray, List.map_cons, List.map_nil]); first | done | rfl | (simp only [List.length_drop, List.length_take]; rfl)) ?_; (with_reducible refine (impl_Inline.calls kj16 ((rd_T25 l0_4 x18_1).f0) ((rd_T25 l0_4 x18_1).f1) ((rd_T25 l0_4 x18_1).f2) _ _ ((rd_T25 l0_4 x18_1).f3) _ _ ((rd_T25 l0_4 x18_1).f4) t1406 _ ?side1 ?side2 ?side3 ?side4 A49.out).mono ?_); (case side1 => repeat (first | exact (Kd.C_below HR1397_3.out HB.out) | (with_reducible refine Kd.C_alloc ?_ _) | (with_reducible refine Kd.C_drewN ?_ _) | (with_reducible refine Kd.C_drew ?_))); (case side2 => exact HC1397_3.out); (case side3 => repeat (first | exact (Kd.C_below HR1397_4.out HB.out) | (with_reducible refine Kd.C_alloc ?_ _) | (with_reducible refine Kd.C_drewN ?_ _) | (with_reducible refine Kd.C_drew ?_))); (case side4 => exact HC1397_4.out); rintro e w55 ⟨rfl, hb⟩; refine ⟨_, rfl, ?_⟩; have n0_ := Aside0.mk (blk_below (g := gb1395) (o := .cells #[.int .i64 a0_0, .int .i64 a0_1, .string a0_2, .slice A0_3 l0_3.length c0_3, .slice (some ad1397) l0_4.length c0_4] 25 (0, 0)) (by (with_reducible repeat (first | refine blk_drewN ?_ _ | refine blk_drew ?_ | refine blk_alloc ?_ _)); exact BK1395.out) hb); have n1_ := Aside0.mk (blk_below (g := gb1398) (o := .cells #[.int .i64 ((rd_T25 l0_4 x18_1).f0), .int .i64 ((rd_T25 l0_4 x18_1).f1), .string ((rd_T25 l0_4 x18_1).f2), .slice A1397_3 ((rd_T25 l0_4 x18_1).f3).length c1397_3, .slice A1397_4 ((rd_T25 l0_4 x18_1).f4).length c1397_4] 25 (0, 0)) (by (with_reducible repeat (first | refine blk_drewN ?_ _ | refine blk_drew ?_ | refine blk_alloc ?_ _)); exact BK1398.out) hb); have n2_ := Aside0.mk (below_step (by repeat (first | (with_reducible first | exact HB.out | apply below_alloc | apply pw_below_drewN | apply below_drew1 | refine below_set ?_ GE1395.out | refine below_set ?_ GE1398.out) | exact HB.out)) hb); clear BK1395; clear BK1398; clear HB; have BK1395 := n0_; have BK1398 := n1_; have HB := n2_; clear n0_ n1_ n2_; (try clear hb); (try clear hb2); (try clear hk); (try clear hi)))
                            go_roundg kj16
                            case measure => have := HK1.out; have := HJ16.out; omega
                            case rel => exact ⟨(x5_16 ++ (((⟨#[32]⟩ : ByteArray) ++ t1406) ++ (⟨#[10]⟩ : ByteArray))), (wrap64 (x18_1 + 1)), (by first | rfl | (simp; done) | (simp [*]; done)), (by first | rfl | (simp; done) | (simp [*]; done)), H', ⟨by have := HK1.out; have := HJ16.out; omega⟩, ⟨by (with_reducible repeat (first | refine blk_drewN ?_ _ | refine blk_drew ?_ | refine blk_alloc ?_ _)); exact BK1395.out⟩, ⟨by repeat (first | (with_reducible first | exact HB.out | apply below_alloc | apply pw_below_drewN | apply below_drew1 | refine below_set ?_ GE1395.out | refine below_set ?_ GE1398.out) | exact HB.out)⟩⟩
                          · rw [if_neg c52] at H
                            exact absurd H (by simp)
                        · rw [if_neg c51] at H
                          exact absurd H (by simp)
                      · rw [if_neg c50] at H
                        exact absurd H (by simp)
              · rw [if_neg c16] at H
                exact absurd H (by simp)
            · rw [if_neg c14] at H
              exact absurd H (by simp)
          · rw [if_neg c13] at H
            exact absurd H (by simp)
        · rw [if_neg c12] at H
          have c12b0 : decide (x18_1 < (l0_4.length : Int)) = false := decide_eq_false c12
          clear c12
          obtain rfl := Option.some.inj H
          go_wp2
          go_ret
          exact ⟨by first | rfl | (simp [errW_none, errW_some] <;> rfl) | (simp [*, errW_none, errW_some] <;> rfl), by repeat (first | (with_reducible first | exact HB.out | apply below_alloc | apply pw_below_drewN | apply below_drew1 | refine below_set ?_ GE1395.out) | exact HB.out)⟩

end Go.Proofs.Ytnbnpgjgibcmpaa.P
