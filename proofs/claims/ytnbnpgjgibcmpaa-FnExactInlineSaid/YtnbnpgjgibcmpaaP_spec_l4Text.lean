-- Made by drive.py (a program of this session) over the kit's print; not written line by line by a hand.
import Derived.Test.YtnbnpgjgibcmpaaP0
import Derived.Test.YtnbnpgjgibcmpaaP_spec_Digits
import Derived.Test.YtnbnpgjgibcmpaaP_spec_Quote
namespace Go.Proofs.Ytnbnpgjgibcmpaa.P
open Go.RowKit Go.Proofs.YtnbnpgjgibcmpaaW.PrintWords Go.Proofs.YtnbnpgjgibcmpaaW.PrintLast Go.Proofs.YtnbnpgjgibcmpaaW.PrintMore
attribute [local go_sem] max2_int min2_int max_two min_two max_three min_three max_four min_four   -- for this text's walks alone
set_option linter.unusedVariables false
set_option linter.unusedSimpArgs false

/-! ### spec_l4Text: function 111 -/
mutual
def spec_l4Text.j0 : Nat → ByteArray → ByteArray → Int → Int → ByteArray → List ByteArray → List (S25) → Option (ByteArray)
  | 0, _, _, _, _, _, _, _ => none
  | k + 1, x3, x4, x1194000, x1194001, x1194002, x1194003, x1194004 => spec_l4Text.l0 k x4 x3 0 x1194000 x1194001 x1194002 x1194003 x1194004
def spec_l4Text.l0 : Nat → ByteArray → ByteArray → Int → Int → Int → ByteArray → List ByteArray → List (S25) → Option (ByteArray)
  | 0, _, _, _, _, _, _, _, _ => none
  | k + 1, x4, x5, x6, x1194000, x1194001, x1194002, x1194003, x1194004 => if x6 < (x1194004.length : Int) then (if x6 > 0 then (if x5.size + 1 ≤ 9223372036854775807 then (spec_l4Text.j2 k x4 (x5 ++ (⟨#[44]⟩ : ByteArray)) x6 x1194000 x1194001 x1194002 x1194003 x1194004) else (none)) else (spec_l4Text.j2 k x4 x5 x6 x1194000 x1194001 x1194002 x1194003 x1194004)) else (if x5.size + x4.size ≤ 9223372036854775807 then (some (x5 ++ x4)) else (none))
def spec_l4Text.j2 : Nat → ByteArray → ByteArray → Int → Int → Int → ByteArray → List ByteArray → List (S25) → Option (ByteArray)
  | 0, _, _, _, _, _, _, _, _ => none
  | k + 1, x4, x5, x6, x1194000, x1194001, x1194002, x1194003, x1194004 => if x1194000 = 5 then (if 0 ≤ x6 then (if x6 < (x1194003.length : Int) then ((spec_Quote.f k (rdOf ByteArray.empty x1194003 x6)).bind fun t1197 => (if x5.size + t1197.size ≤ 9223372036854775807 then (if (x5 ++ t1197).size + 1 ≤ 9223372036854775807 then (if x6 < (x1194004.length : Int) then ((spec_l4Text.f k ((rd_T25 x1194004 x6).f0) ((rd_T25 x1194004 x6).f1) ((rd_T25 x1194004 x6).f2) ((rd_T25 x1194004 x6).f3) ((rd_T25 x1194004 x6).f4)).bind fun t1199 => (if ((x5 ++ t1197) ++ (⟨#[58]⟩ : ByteArray)).size + t1199.size ≤ 9223372036854775807 then (spec_l4Text.l0 k x4 (((x5 ++ t1197) ++ (⟨#[58]⟩ : ByteArray)) ++ t1199) (wrap64 (x6 + 1)) x1194000 x1194001 x1194002 x1194003 x1194004) else (none))) else (none)) else (none)) else (none))) else (none)) else (none)) else (if 0 ≤ x6 then (if x6 < (x1194004.length : Int) then ((spec_l4Text.f k ((rd_T25 x1194004 x6).f0) ((rd_T25 x1194004 x6).f1) ((rd_T25 x1194004 x6).f2) ((rd_T25 x1194004 x6).f3) ((rd_T25 x1194004 x6).f4)).bind fun t1201 => (if x5.size + t1201.size ≤ 9223372036854775807 then (spec_l4Text.l0 k x4 (x5 ++ t1201) (wrap64 (x6 + 1)) x1194000 x1194001 x1194002 x1194003 x1194004) else (none))) else (none)) else (none))
def spec_l4Text.f : Nat → Int → Int → ByteArray → List ByteArray → List (S25) → Option (ByteArray)
  | 0, _, _, _, _, _ => none
  | k + 1, a0_0, a0_1, a0_2, l0_3, l0_4 => if a0_0 = 0 then (some (⟨#[110, 117, 108, 108]⟩ : ByteArray)) else (if a0_0 = 1 then (if a0_1 = 1 then (some (⟨#[116, 114, 117, 101]⟩ : ByteArray)) else (some (⟨#[102, 97, 108, 115, 101]⟩ : ByteArray))) else (if a0_0 = 2 then ((spec_Digits.f k a0_1).bind fun t1194 => (some t1194)) else (if a0_0 = 3 then ((spec_Quote.f k a0_2).bind fun t1195 => (some t1195)) else (if a0_0 = 5 then (spec_l4Text.j0 k (⟨#[123]⟩ : ByteArray) (⟨#[125]⟩ : ByteArray) a0_0 a0_1 a0_2 l0_3 l0_4) else (spec_l4Text.j0 k (⟨#[91]⟩ : ByteArray) (⟨#[93]⟩ : ByteArray) a0_0 a0_1 a0_2 l0_3 l0_4)))))
end
theorem spec_l4Text.mono_l : ∀ k, (∀ y0 y1 y2 y3 y4, LeO (spec_l4Text.f k y0 y1 y2 y3 y4) (spec_l4Text.f (k + 1) y0 y1 y2 y3 y4)) ∧ (∀ y0 y1 y2 y3 y4 y5 y6, LeO (spec_l4Text.j0 k y0 y1 y2 y3 y4 y5 y6) (spec_l4Text.j0 (k + 1) y0 y1 y2 y3 y4 y5 y6)) ∧ (∀ y0 y1 y2 y3 y4 y5 y6 y7, LeO (spec_l4Text.l0 k y0 y1 y2 y3 y4 y5 y6 y7) (spec_l4Text.l0 (k + 1) y0 y1 y2 y3 y4 y5 y6 y7)) ∧ (∀ y0 y1 y2 y3 y4 y5 y6 y7, LeO (spec_l4Text.j2 k y0 y1 y2 y3 y4 y5 y6 y7) (spec_l4Text.j2 (k + 1) y0 y1 y2 y3 y4 y5 y6 y7))
  | 0 => ⟨fun _ _ _ _ _ r h => by simp [spec_l4Text.f] at h, fun _ _ _ _ _ _ _ r h => by simp [spec_l4Text.j0] at h, fun _ _ _ _ _ _ _ _ r h => by simp [spec_l4Text.l0] at h, fun _ _ _ _ _ _ _ _ r h => by simp [spec_l4Text.j2] at h⟩
  | k + 1 => by
    obtain ⟨ih0, ih1, ih2, ih3⟩ := spec_l4Text.mono_l k
    refine ⟨?_, ?_, ?_, ?_⟩
    · intro y0 y1 y2 y3 y4
      unfold spec_l4Text.f
      repeat' first
      | (with_reducible exact ih0 _ _ _ _ _)
      | (with_reducible exact ih1 _ _ _ _ _ _ _)
      | (with_reducible exact ih2 _ _ _ _ _ _ _ _)
      | (with_reducible exact ih3 _ _ _ _ _ _ _ _)
      | (with_reducible exact spec_Digits.mono _ _)
      | (with_reducible exact spec_Quote.mono _ _)
      | (with_reducible exact LeO.refl _)
      | (with_reducible exact LeO.none _)
      | (with_reducible refine LeO.ite ?_ ?_)
      | (with_reducible refine LeO.bind ?_ (fun _ => ?_))
      | exact ih0 _ _ _ _ _
      | exact ih1 _ _ _ _ _ _ _
      | exact ih2 _ _ _ _ _ _ _ _
      | exact ih3 _ _ _ _ _ _ _ _
      | exact spec_Digits.mono _ _
      | exact spec_Quote.mono _ _
      | exact LeO.none _
      | refine LeO.ite ?_ ?_
      | refine LeO.bind ?_ (fun _ => ?_)
    · intro y0 y1 y2 y3 y4 y5 y6
      unfold spec_l4Text.j0
      repeat' first
      | (with_reducible exact ih0 _ _ _ _ _)
      | (with_reducible exact ih1 _ _ _ _ _ _ _)
      | (with_reducible exact ih2 _ _ _ _ _ _ _ _)
      | (with_reducible exact ih3 _ _ _ _ _ _ _ _)
      | (with_reducible exact spec_Digits.mono _ _)
      | (with_reducible exact spec_Quote.mono _ _)
      | (with_reducible exact LeO.refl _)
      | (with_reducible exact LeO.none _)
      | (with_reducible refine LeO.ite ?_ ?_)
      | (with_reducible refine LeO.bind ?_ (fun _ => ?_))
      | exact ih0 _ _ _ _ _
      | exact ih1 _ _ _ _ _ _ _
      | exact ih2 _ _ _ _ _ _ _ _
      | exact ih3 _ _ _ _ _ _ _ _
      | exact spec_Digits.mono _ _
      | exact spec_Quote.mono _ _
      | exact LeO.none _
      | refine LeO.ite ?_ ?_
      | refine LeO.bind ?_ (fun _ => ?_)
    · intro y0 y1 y2 y3 y4 y5 y6 y7
      unfold spec_l4Text.l0
      repeat' first
      | (with_reducible exact ih0 _ _ _ _ _)
      | (with_reducible exact ih1 _ _ _ _ _ _ _)
      | (with_reducible exact ih2 _ _ _ _ _ _ _ _)
      | (with_reducible exact ih3 _ _ _ _ _ _ _ _)
      | (with_reducible exact spec_Digits.mono _ _)
      | (with_reducible exact spec_Quote.mono _ _)
      | (with_reducible exact LeO.refl _)
      | (with_reducible exact LeO.none _)
      | (with_reducible refine LeO.ite ?_ ?_)
      | (with_reducible refine LeO.bind ?_ (fun _ => ?_))
      | exact ih0 _ _ _ _ _
      | exact ih1 _ _ _ _ _ _ _
      | exact ih2 _ _ _ _ _ _ _ _
      | exact ih3 _ _ _ _ _ _ _ _
      | exact spec_Digits.mono _ _
      | exact spec_Quote.mono _ _
      | exact LeO.none _
      | refine LeO.ite ?_ ?_
      | refine LeO.bind ?_ (fun _ => ?_)
    · intro y0 y1 y2 y3 y4 y5 y6 y7
      unfold spec_l4Text.j2
      repeat' first
      | (with_reducible exact ih0 _ _ _ _ _)
      | (with_reducible exact ih1 _ _ _ _ _ _ _)
      | (with_reducible exact ih2 _ _ _ _ _ _ _ _)
      | (with_reducible exact ih3 _ _ _ _ _ _ _ _)
      | (with_reducible exact spec_Digits.mono _ _)
      | (with_reducible exact spec_Quote.mono _ _)
      | (with_reducible exact LeO.refl _)
      | (with_reducible exact LeO.none _)
      | (with_reducible refine LeO.ite ?_ ?_)
      | (with_reducible refine LeO.bind ?_ (fun _ => ?_))
      | exact ih0 _ _ _ _ _
      | exact ih1 _ _ _ _ _ _ _
      | exact ih2 _ _ _ _ _ _ _ _
      | exact ih3 _ _ _ _ _ _ _ _
      | exact spec_Digits.mono _ _
      | exact spec_Quote.mono _ _
      | exact LeO.none _
      | refine LeO.ite ?_ ?_
      | refine LeO.bind ?_ (fun _ => ?_)
theorem spec_l4Text.mono : ∀ a0 a1 a2 a3 a4 k, LeO (spec_l4Text.f k a0 a1 a2 a3 a4) (spec_l4Text.f (k + 1) a0 a1 a2 a3 a4) := by
  intro a0 a1 a2 a3 a4 k
  obtain ⟨ih0, ih1, ih2, ih3⟩ := spec_l4Text.mono_l k
  exact ih0 a0 a1 a2 a3 a4
set_option maxHeartbeats 8000000 in
set_option maxRecDepth 100000 in
theorem spec_l4Text.calls (k : Nat) : ∀ (a0_0 : Int) (a0_1 : Int) (a0_2 : ByteArray) (A0_3 : Option Addr) (c0_3 : Nat) (l0_3 : List ByteArray) (A0_4 : Option Addr) (c0_4 : Nat) (l0_4 : List (S25)) (r : ByteArray) (w : World) (hr0_3 : Kd.C Kd.string w A0_3 l0_3.length l0_3) (hc0_3 : l0_3.length ≤ c0_3) (hr0_4 : Kd.C k25 w A0_4 l0_4.length l0_4) (hc0_4 : l0_4.length ≤ c0_4) (h : spec_l4Text.f k a0_0 a0_1 a0_2 l0_3 l0_4 = some r),
    Calls Try.prog 111 #[.agg #[.int .i64 a0_0, .int .i64 a0_1, .string a0_2, .slice A0_3 l0_3.length c0_3, .slice A0_4 l0_4.length c0_4]] w fun e w' => e = .returned (.string r) ∧ Below w.heap.size w w' := by
  induction k using Nat.strongRecOn with
  | _ k ih =>
  intro a0_0 a0_1 a0_2 A0_3 c0_3 l0_3 A0_4 c0_4 l0_4 r w hr0_3 hc0_3 hr0_4 hc0_4 h
  cases k with
  | zero => exact absurd h (by simp [spec_l4Text.f])
  | succ k =>
  simp only [spec_l4Text.f] at h
  have hu25 := Try.underlying25
  have HR0_3 := Aside0.mk hr0_3
  have HC0_3 := Aside0.mk hc0_3
  clear hr0_3 hc0_3
  have HR0_4 := Aside0.mk hr0_4
  have HC0_4 := Aside0.mk hc0_4
  clear hr0_4 hc0_4
  have HB := Aside0.mk (Below.refl w.heap.size w)
  have H : (if a0_0 = 0 then (some (⟨#[110, 117, 108, 108]⟩ : ByteArray)) else (if a0_0 = 1 then (if a0_1 = 1 then (some (⟨#[116, 114, 117, 101]⟩ : ByteArray)) else (some (⟨#[102, 97, 108, 115, 101]⟩ : ByteArray))) else (if a0_0 = 2 then ((spec_Digits.f k a0_1).bind fun t1194 => (some t1194)) else (if a0_0 = 3 then ((spec_Quote.f k a0_2).bind fun t1195 => (some t1195)) else (if a0_0 = 5 then (spec_l4Text.j0 k (⟨#[123]⟩ : ByteArray) (⟨#[125]⟩ : ByteArray) a0_0 a0_1 a0_2 l0_3 l0_4) else (spec_l4Text.j0 k (⟨#[91]⟩ : ByteArray) (⟨#[93]⟩ : ByteArray) a0_0 a0_1 a0_2 l0_3 l0_4)))))) = some r := h
  clear h
  have HC2 := Aside0.mk H
  clear H
  go_enter Try.func111, Try.ntmps111
  go_upto_if 9 with (first | ((with_reducible refine gate_dst (N := 1) rfl ?_); refine box_event ?hg (N := 1) ?hd (cs := #[.int .i64 a0_0, .int .i64 a0_1, .string a0_2, .slice A0_3 l0_3.length c0_3, .slice A0_4 l0_4.length c0_4]) (t := 25) ?hr ?_; (case hd => rfl); (case hg => rfl); (case hr => first | (go_simp; done) | (go_simp; rfl)); intro gb1193 hg w3 hbox hb; have n0_ := Aside0.mk (below_step (by repeat (first | (with_reducible first | exact HB.out | apply below_alloc | apply pw_below_drewN | apply below_drew1) | exact HB.out)) hb); have n1_ := Aside0.mk (hbox); have n2_ := Aside0.mk ((by rw [hg]; exact (below_size (by repeat (first | (with_reducible first | exact HB.out | apply below_alloc | apply pw_below_drewN | apply below_drew1) | exact HB.out))) : w.heap.size ≤ gb1193)); have n3_ := Aside0.mk ((by rw [hg]; exact (below_size (by repeat (first | (with_reducible first | exact HB.out | apply below_alloc | apply pw_below_drewN | apply below_drew1) | exact HB.out))) : w.heap.size ≤ gb1193)); clear HB; have HB := n0_; have BK1193 := n1_; have GW1193 := n2_; have GE1193 := n3_; clear n0_ n1_ n2_ n3_; clear hb hbox hg; have hcz4_0 : w3.cell? ⟨gb1193, 0, none⟩ = some (.int .i64 a0_0) := (blk_cell BK1193.out 0).trans rfl; have hcz4_1 : w3.cell? ⟨gb1193, 1, none⟩ = some (.int .i64 a0_1) := (blk_cell BK1193.out 1).trans rfl; have hcz4_2 : w3.cell? ⟨gb1193, 2, none⟩ = some (.string a0_2) := (blk_cell BK1193.out 2).trans rfl; have hcz4_3 : w3.cell? ⟨gb1193, 3, none⟩ = some (.slice A0_3 l0_3.length c0_3) := (blk_cell BK1193.out 3).trans rfl; have hcz4_4 : w3.cell? ⟨gb1193, 4, none⟩ = some (.slice A0_4 l0_4.length c0_4) := (blk_cell BK1193.out 4).trans rfl; have hfz4_0 := blk_frozen BK1193.out 0; have hfz4_1 := blk_frozen BK1193.out 1; have hfz4_2 := blk_frozen BK1193.out 2; have hfz4_3 := blk_frozen BK1193.out 3; have hfz4_4 := blk_frozen BK1193.out 4))
  (try simp only [Act.put, List.setIfInBounds_toArray, List.set_cons_zero, List.set_cons_succ])
  have H := HC2.out
  clear HC2
  by_cases c5 : a0_0 = 0
  · rw [if_pos c5] at H
    have c5b0 : (a0_0 == 0) = true := beq_iff_eq.mpr c5
    have c5b1 : (a0_0 != 0) = false := bne_eq_false_iff_eq.mpr c5
    clear c5
    (first | rw [c5b0] | rw [c5b1] | (simp only [i64_w, i32_w]; rw [c5b0]) | skip)
    obtain rfl := Option.some.inj H
    go_wp2
    go_ret
    exact ⟨by first | rfl | (simp [errW_none, errW_some] <;> rfl) | (simp [*, errW_none, errW_some] <;> rfl), by repeat (first | (with_reducible first | exact HB.out | apply below_alloc | apply pw_below_drewN | apply below_drew1 | refine below_set ?_ GE1193.out) | exact HB.out)⟩
  · rw [if_neg c5] at H
    have c5b0 : (a0_0 == 0) = false := beq_eq_false_iff_ne.mpr c5
    have c5b1 : (a0_0 != 0) = true := bne_iff_ne.mpr c5
    (first | rw [c5b0] | rw [c5b1] | (simp only [i64_w, i32_w]; rw [c5b0]) | skip)
    by_cases c6 : a0_0 = 1
    · rw [if_pos c6] at H
      have c6b0 : (a0_0 == 1) = true := beq_iff_eq.mpr c6
      have c6b1 : (a0_0 != 1) = false := bne_eq_false_iff_eq.mpr c6
      clear c6
      by_cases c7 : a0_1 = 1
      · rw [if_pos c7] at H
        have c7b0 : (a0_1 == 1) = true := beq_iff_eq.mpr c7
        have c7b1 : (a0_1 != 1) = false := bne_eq_false_iff_eq.mpr c7
        clear c7
        obtain rfl := Option.some.inj H
        have hcz8_0 : w3.cell? ⟨gb1193, 0, none⟩ = some (.int .i64 a0_0) := (blk_cell BK1193.out 0).trans rfl
        have hcz8_1 : w3.cell? ⟨gb1193, 1, none⟩ = some (.int .i64 a0_1) := (blk_cell BK1193.out 1).trans rfl
        have hcz8_2 : w3.cell? ⟨gb1193, 2, none⟩ = some (.string a0_2) := (blk_cell BK1193.out 2).trans rfl
        have hcz8_3 : w3.cell? ⟨gb1193, 3, none⟩ = some (.slice A0_3 l0_3.length c0_3) := (blk_cell BK1193.out 3).trans rfl
        have hcz8_4 : w3.cell? ⟨gb1193, 4, none⟩ = some (.slice A0_4 l0_4.length c0_4) := (blk_cell BK1193.out 4).trans rfl
        have hfz8_0 := blk_frozen BK1193.out 0
        have hfz8_1 := blk_frozen BK1193.out 1
        have hfz8_2 := blk_frozen BK1193.out 2
        have hfz8_3 := blk_frozen BK1193.out 3
        have hfz8_4 := blk_frozen BK1193.out 4
        go_wp2
        go_ret
        exact ⟨by first | rfl | (simp [errW_none, errW_some] <;> rfl) | (simp [*, errW_none, errW_some] <;> rfl), by repeat (first | (with_reducible first | exact HB.out | apply below_alloc | apply pw_below_drewN | apply below_drew1 | refine below_set ?_ GE1193.out) | exact HB.out)⟩
      · rw [if_neg c7] at H
        have c7b0 : (a0_1 == 1) = false := beq_eq_false_iff_ne.mpr c7
        have c7b1 : (a0_1 != 1) = true := bne_iff_ne.mpr c7
        obtain rfl := Option.some.inj H
        have hcz9_0 : w3.cell? ⟨gb1193, 0, none⟩ = some (.int .i64 a0_0) := (blk_cell BK1193.out 0).trans rfl
        have hcz9_1 : w3.cell? ⟨gb1193, 1, none⟩ = some (.int .i64 a0_1) := (blk_cell BK1193.out 1).trans rfl
        have hcz9_2 : w3.cell? ⟨gb1193, 2, none⟩ = some (.string a0_2) := (blk_cell BK1193.out 2).trans rfl
        have hcz9_3 : w3.cell? ⟨gb1193, 3, none⟩ = some (.slice A0_3 l0_3.length c0_3) := (blk_cell BK1193.out 3).trans rfl
        have hcz9_4 : w3.cell? ⟨gb1193, 4, none⟩ = some (.slice A0_4 l0_4.length c0_4) := (blk_cell BK1193.out 4).trans rfl
        have hfz9_0 := blk_frozen BK1193.out 0
        have hfz9_1 := blk_frozen BK1193.out 1
        have hfz9_2 := blk_frozen BK1193.out 2
        have hfz9_3 := blk_frozen BK1193.out 3
        have hfz9_4 := blk_frozen BK1193.out 4
        go_wp2
        go_ret
        exact ⟨by first | rfl | (simp [errW_none, errW_some] <;> rfl) | (simp [*, errW_none, errW_some] <;> rfl), by repeat (first | (with_reducible first | exact HB.out | apply below_alloc | apply pw_below_drewN | apply below_drew1 | refine below_set ?_ GE1193.out) | exact HB.out)⟩
    · rw [if_neg c6] at H
      have c6b0 : (a0_0 == 1) = false := beq_eq_false_iff_ne.mpr c6
      have c6b1 : (a0_0 != 1) = true := bne_iff_ne.mpr c6
      by_cases c10 : a0_0 = 2
      · rw [if_pos c10] at H
        have c10b0 : (a0_0 == 2) = true := beq_iff_eq.mpr c10
        have c10b1 : (a0_0 != 2) = false := bne_eq_false_iff_eq.mpr c10
        clear c10
        replace H := Option.bind_eq_some_iff.mp H
        obtain ⟨t1194, A110, H⟩ := H
        replace H : (some t1194) = some r := H
        have A11 := Aside0.mk A110
        clear A110
        obtain rfl := Option.some.inj H
        have hcz12_0 : w3.cell? ⟨gb1193, 0, none⟩ = some (.int .i64 a0_0) := (blk_cell BK1193.out 0).trans rfl
        have hcz12_1 : w3.cell? ⟨gb1193, 1, none⟩ = some (.int .i64 a0_1) := (blk_cell BK1193.out 1).trans rfl
        have hcz12_2 : w3.cell? ⟨gb1193, 2, none⟩ = some (.string a0_2) := (blk_cell BK1193.out 2).trans rfl
        have hcz12_3 : w3.cell? ⟨gb1193, 3, none⟩ = some (.slice A0_3 l0_3.length c0_3) := (blk_cell BK1193.out 3).trans rfl
        have hcz12_4 : w3.cell? ⟨gb1193, 4, none⟩ = some (.slice A0_4 l0_4.length c0_4) := (blk_cell BK1193.out 4).trans rfl
        have hfz12_0 := blk_frozen BK1193.out 0
        have hfz12_1 := blk_frozen BK1193.out 1
        have hfz12_2 := blk_frozen BK1193.out 2
        have hfz12_3 := blk_frozen BK1193.out 3
        have hfz12_4 := blk_frozen BK1193.out 4
        go_wp2_with (first | ((with_reducible refine gate_callee (f := 137) rfl ?_); refine goesL_ (some 20) rfl rfl Try.func137 (by kernel_rfl) rfl #[.int .i64 a0_1] rfl (by (try simp only [List.map_toArray, List.map_cons, List.map_nil]); first | done | rfl | (simp only [List.length_drop, List.length_take]; rfl)) ?_; (with_reducible refine (spec_Digits.calls k a0_1 t1194 _ A11.out).mono ?_); rintro e w13 ⟨rfl, hb⟩; refine ⟨_, rfl, ?_⟩; have n0_ := Aside0.mk (blk_below (g := gb1193) (o := .cells #[.int .i64 a0_0, .int .i64 a0_1, .string a0_2, .slice A0_3 l0_3.length c0_3, .slice A0_4 l0_4.length c0_4] 25 (0, 0)) (by (with_reducible repeat (first | refine blk_drewN ?_ _ | refine blk_drew ?_ | refine blk_alloc ?_ _)); exact BK1193.out) hb); have n1_ := Aside0.mk (below_step (by repeat (first | (with_reducible first | exact HB.out | apply below_alloc | apply pw_below_drewN | apply below_drew1 | refine below_set ?_ GE1193.out) | exact HB.out)) hb); clear BK1193; clear HB; have BK1193 := n0_; have HB := n1_; clear n0_ n1_; (try clear hb); (try clear hb2); (try clear hk); (try clear hi)))
        go_ret
        exact ⟨by first | rfl | (simp [errW_none, errW_some] <;> rfl) | (simp [*, errW_none, errW_some] <;> rfl), by repeat (first | (with_reducible first | exact HB.out | apply below_alloc | apply pw_below_drewN | apply below_drew1 | refine below_set ?_ GE1193.out) | exact HB.out)⟩
      · rw [if_neg c10] at H
        have c10b0 : (a0_0 == 2) = false := beq_eq_false_iff_ne.mpr c10
        have c10b1 : (a0_0 != 2) = true := bne_iff_ne.mpr c10
        by_cases c14 : a0_0 = 3
        · rw [if_pos c14] at H
          have c14b0 : (a0_0 == 3) = true := beq_iff_eq.mpr c14
          have c14b1 : (a0_0 != 3) = false := bne_eq_false_iff_eq.mpr c14
          clear c14
          replace H := Option.bind_eq_some_iff.mp H
          obtain ⟨t1195, A150, H⟩ := H
          replace H : (some t1195) = some r := H
          have A15 := Aside0.mk A150
          clear A150
          obtain rfl := Option.some.inj H
          have hcz16_0 : w3.cell? ⟨gb1193, 0, none⟩ = some (.int .i64 a0_0) := (blk_cell BK1193.out 0).trans rfl
          have hcz16_1 : w3.cell? ⟨gb1193, 1, none⟩ = some (.int .i64 a0_1) := (blk_cell BK1193.out 1).trans rfl
          have hcz16_2 : w3.cell? ⟨gb1193, 2, none⟩ = some (.string a0_2) := (blk_cell BK1193.out 2).trans rfl
          have hcz16_3 : w3.cell? ⟨gb1193, 3, none⟩ = some (.slice A0_3 l0_3.length c0_3) := (blk_cell BK1193.out 3).trans rfl
          have hcz16_4 : w3.cell? ⟨gb1193, 4, none⟩ = some (.slice A0_4 l0_4.length c0_4) := (blk_cell BK1193.out 4).trans rfl
          have hfz16_0 := blk_frozen BK1193.out 0
          have hfz16_1 := blk_frozen BK1193.out 1
          have hfz16_2 := blk_frozen BK1193.out 2
          have hfz16_3 := blk_frozen BK1193.out 3
          have hfz16_4 := blk_frozen BK1193.out 4
          go_wp2_with (first | ((with_reducible refine gate_callee (f := 140) rfl ?_); refine goesL_ (some 25) rfl rfl Try.func140 (by kernel_rfl) rfl #[.string a0_2] rfl (by (try simp only [List.map_toArray, List.map_cons, List.map_nil]); first | done | rfl | (simp only [List.length_drop, List.length_take]; rfl)) ?_; (with_reducible refine (spec_Quote.calls k a0_2 t1195 _ A15.out).mono ?_); rintro e w17 ⟨rfl, hb⟩; refine ⟨_, rfl, ?_⟩; have n0_ := Aside0.mk (blk_below (g := gb1193) (o := .cells #[.int .i64 a0_0, .int .i64 a0_1, .string a0_2, .slice A0_3 l0_3.length c0_3, .slice A0_4 l0_4.length c0_4] 25 (0, 0)) (by (with_reducible repeat (first | refine blk_drewN ?_ _ | refine blk_drew ?_ | refine blk_alloc ?_ _)); exact BK1193.out) hb); have n1_ := Aside0.mk (below_step (by repeat (first | (with_reducible first | exact HB.out | apply below_alloc | apply pw_below_drewN | apply below_drew1 | refine below_set ?_ GE1193.out) | exact HB.out)) hb); clear BK1193; clear HB; have BK1193 := n0_; have HB := n1_; clear n0_ n1_; (try clear hb); (try clear hb2); (try clear hk); (try clear hi)))
          go_ret
          exact ⟨by first | rfl | (simp [errW_none, errW_some] <;> rfl) | (simp [*, errW_none, errW_some] <;> rfl), by repeat (first | (with_reducible first | exact HB.out | apply below_alloc | apply pw_below_drewN | apply below_drew1 | refine below_set ?_ GE1193.out) | exact HB.out)⟩
        · rw [if_neg c14] at H
          have c14b0 : (a0_0 == 3) = false := beq_eq_false_iff_ne.mpr c14
          have c14b1 : (a0_0 != 3) = true := bne_iff_ne.mpr c14
          have HC18 := Aside0.mk H
          clear H
          have hcz19_0 : w3.cell? ⟨gb1193, 0, none⟩ = some (.int .i64 a0_0) := (blk_cell BK1193.out 0).trans rfl
          have hcz19_1 : w3.cell? ⟨gb1193, 1, none⟩ = some (.int .i64 a0_1) := (blk_cell BK1193.out 1).trans rfl
          have hcz19_2 : w3.cell? ⟨gb1193, 2, none⟩ = some (.string a0_2) := (blk_cell BK1193.out 2).trans rfl
          have hcz19_3 : w3.cell? ⟨gb1193, 3, none⟩ = some (.slice A0_3 l0_3.length c0_3) := (blk_cell BK1193.out 3).trans rfl
          have hcz19_4 : w3.cell? ⟨gb1193, 4, none⟩ = some (.slice A0_4 l0_4.length c0_4) := (blk_cell BK1193.out 4).trans rfl
          have hfz19_0 := blk_frozen BK1193.out 0
          have hfz19_1 := blk_frozen BK1193.out 1
          have hfz19_2 := blk_frozen BK1193.out 2
          have hfz19_3 := blk_frozen BK1193.out 3
          have hfz19_4 := blk_frozen BK1193.out 4
          go_upto_if 28 with (fail)
          go_cut [3, 4] (fun v3 v4 wc => ∃ (kq : Nat) (x3_17 : ByteArray) (x4_17 : ByteArray), v3 = .string x3_17 ∧ v4 = .string x4_17 ∧ Aside0 (spec_l4Text.j0 kq x3_17 x4_17 a0_0 a0_1 a0_2 l0_3 l0_4 = some r) ∧ Aside0 (kq ≤ k) ∧ Aside0 (wc.heap[gb1193]? = some (.cells #[.int .i64 a0_0, .int .i64 a0_1, .string a0_2, (.slice A0_3 l0_3.length c0_3), (.slice A0_4 l0_4.length c0_4)] 25 (0, 0))) ∧ Aside0 (Below w.heap.size w wc))
          case first =>
            have H := HC18.out
            clear HC18
            by_cases c20 : a0_0 = 5
            · rw [if_pos c20] at H
              have c20b0 : (a0_0 == 5) = true := beq_iff_eq.mpr c20
              have c20b1 : (a0_0 != 5) = false := bne_eq_false_iff_eq.mpr c20
              clear c20
              (first | rw [c20b0] | rw [c20b1] | (simp only [i64_w, i32_w]; rw [c20b0]) | skip)
              have H' := Aside0.mk H
              clear H
              go_wp2
              go_meet
              case rel => exact ⟨_, ((⟨#[123]⟩ : ByteArray)), ((⟨#[125]⟩ : ByteArray)), (by first | rfl | (simp; done) | (simp [*]; done)), (by first | rfl | (simp; done) | (simp [*]; done)), H', ⟨by first | omega | exact Nat.le_refl _⟩, ⟨by (with_reducible repeat (first | refine blk_drewN ?_ _ | refine blk_drew ?_ | refine blk_alloc ?_ _)); exact BK1193.out⟩, ⟨by repeat (first | (with_reducible first | exact HB.out | apply below_alloc | apply pw_below_drewN | apply below_drew1 | refine below_set ?_ GE1193.out) | exact HB.out)⟩⟩
            · rw [if_neg c20] at H
              have c20b0 : (a0_0 == 5) = false := beq_eq_false_iff_ne.mpr c20
              have c20b1 : (a0_0 != 5) = true := bne_iff_ne.mpr c20
              (first | rw [c20b0] | rw [c20b1] | (simp only [i64_w, i32_w]; rw [c20b0]) | skip)
              have H' := Aside0.mk H
              clear H
              go_wp2
              go_meet
              case rel => exact ⟨_, ((⟨#[91]⟩ : ByteArray)), ((⟨#[93]⟩ : ByteArray)), (by first | rfl | (simp; done) | (simp [*]; done)), (by first | rfl | (simp; done) | (simp [*]; done)), H', ⟨by first | omega | exact Nat.le_refl _⟩, ⟨by (with_reducible repeat (first | refine blk_drewN ?_ _ | refine blk_drew ?_ | refine blk_alloc ?_ _)); exact BK1193.out⟩, ⟨by repeat (first | (with_reducible first | exact HB.out | apply below_alloc | apply pw_below_drewN | apply below_drew1 | refine below_set ?_ GE1193.out) | exact HB.out)⟩⟩
          case rest =>
            clear HC18
            try clear c1
            try clear c2
            try clear p2
            try clear c5
            try clear c5b0
            try clear c5b1
            try clear c6
            try clear c6b0
            try clear c6b1
            try clear c7
            try clear c7b0
            try clear c7b1
            try clear c10
            try clear c10b0
            try clear c10b1
            try clear c11
            try clear c13
            try clear c14
            try clear c14b0
            try clear c14b1
            try clear c20
            try clear c20b0
            try clear c20b1
            try clear hcz12_0
            try clear hcz12_1
            try clear hcz12_2
            try clear hcz12_3
            try clear hcz12_4
            try clear hcz16_0
            try clear hcz16_1
            try clear hcz16_2
            try clear hcz16_3
            try clear hcz16_4
            try clear hcz19_0
            try clear hcz19_1
            try clear hcz19_2
            try clear hcz19_3
            try clear hcz19_4
            try clear hcz4_0
            try clear hcz4_1
            try clear hcz4_2
            try clear hcz4_3
            try clear hcz4_4
            try clear hcz8_0
            try clear hcz8_1
            try clear hcz8_2
            try clear hcz8_3
            try clear hcz8_4
            try clear hcz9_0
            try clear hcz9_1
            try clear hcz9_2
            try clear hcz9_3
            try clear hcz9_4
            try clear hfz12_0
            try clear hfz12_1
            try clear hfz12_2
            try clear hfz12_3
            try clear hfz12_4
            try clear hfz16_0
            try clear hfz16_1
            try clear hfz16_2
            try clear hfz16_3
            try clear hfz16_4
            try clear hfz19_0
            try clear hfz19_1
            try clear hfz19_2
            try clear hfz19_3
            try clear hfz19_4
            try clear hfz4_0
            try clear hfz4_1
            try clear hfz4_2
            try clear hfz4_3
            try clear hfz4_4
            try clear hfz8_0
            try clear hfz8_1
            try clear hfz8_2
            try clear hfz8_3
            try clear hfz8_4
            try clear hfz9_0
            try clear hfz9_1
            try clear hfz9_2
            try clear hfz9_3
            try clear hfz9_4
            obtain ⟨kq, x3_17, x4_17, rfl, rfl, HA, HJ17, BK1193, HB⟩ := hcut
            cases kq with
            | zero => exact absurd HA.out (by simp [spec_l4Text.j0])
            | succ kj17 =>
              have H := HA.out
              clear HA
              simp only [spec_l4Text.j0] at H
              have H' := Aside0.mk H
              clear H
              go_wp2
              go_loopg [5, 6] kj17 (fun kq v5 v6 w' => ∃ (x5_2 : ByteArray) (x6_2 : Int), v5 = .string x5_2 ∧ v6 = .int .i64 x6_2 ∧ Aside0 (spec_l4Text.l0 kq x4_17 x5_2 x6_2 a0_0 a0_1 a0_2 l0_3 l0_4 = some r) ∧ Aside0 (kq ≤ kj17) ∧ Aside0 (w'.heap[gb1193]? = some (.cells #[.int .i64 a0_0, .int .i64 a0_1, .string a0_2, (.slice A0_3 l0_3.length c0_3), (.slice A0_4 l0_4.length c0_4)] 25 (0, 0))) ∧ Aside0 (Below w.heap.size w w'))
              case atStart => exact ⟨(x3_17), (0), (by first | rfl | (simp; done) | (simp [*]; done)), (by first | rfl | (simp; done) | (simp [*]; done)), H', ⟨Nat.le_refl _⟩, ⟨by (with_reducible repeat (first | refine blk_drewN ?_ _ | refine blk_drew ?_ | refine blk_alloc ?_ _)); exact BK1193.out⟩, ⟨by repeat (first | (with_reducible first | exact HB.out | apply below_alloc | apply pw_below_drewN | apply below_drew1 | refine below_set ?_ GE1193.out) | exact HB.out)⟩⟩
              case round =>
                clear H'
                try clear c1
                try clear c2
                try clear p2
                try clear c5
                try clear c5b0
                try clear c5b1
                try clear c6
                try clear c6b0
                try clear c6b1
                try clear c7
                try clear c7b0
                try clear c7b1
                try clear c10
                try clear c10b0
                try clear c10b1
                try clear c11
                try clear c13
                try clear c14
                try clear c14b0
                try clear c14b1
                try clear c20
                try clear c20b0
                try clear c20b1
                try clear hcz12_0
                try clear hcz12_1
                try clear hcz12_2
                try clear hcz12_3
                try clear hcz12_4
                try clear hcz16_0
                try clear hcz16_1
                try clear hcz16_2
                try clear hcz16_3
                try clear hcz16_4
                try clear hcz19_0
                try clear hcz19_1
                try clear hcz19_2
                try clear hcz19_3
                try clear hcz19_4
                try clear hcz4_0
                try clear hcz4_1
                try clear hcz4_2
                try clear hcz4_3
                try clear hcz4_4
                try clear hcz8_0
                try clear hcz8_1
                try clear hcz8_2
                try clear hcz8_3
                try clear hcz8_4
                try clear hcz9_0
                try clear hcz9_1
                try clear hcz9_2
                try clear hcz9_3
                try clear hcz9_4
                try clear hfz12_0
                try clear hfz12_1
                try clear hfz12_2
                try clear hfz12_3
                try clear hfz12_4
                try clear hfz16_0
                try clear hfz16_1
                try clear hfz16_2
                try clear hfz16_3
                try clear hfz16_4
                try clear hfz19_0
                try clear hfz19_1
                try clear hfz19_2
                try clear hfz19_3
                try clear hfz19_4
                try clear hfz4_0
                try clear hfz4_1
                try clear hfz4_2
                try clear hfz4_3
                try clear hfz4_4
                try clear hfz8_0
                try clear hfz8_1
                try clear hfz8_2
                try clear hfz8_3
                try clear hfz8_4
                try clear hfz9_0
                try clear hfz9_1
                try clear hfz9_2
                try clear hfz9_3
                try clear hfz9_4
                try clear p2
                obtain ⟨x5_2, x6_2, rfl, rfl, HA, HK2, BK1193, HB⟩ := hrel
                cases gk with
                | zero => exact absurd HA.out (by simp [spec_l4Text.l0])
                | succ k2 =>
                  have H := HA.out
                  clear HA
                  simp only [spec_l4Text.l0] at H
                  by_cases c21 : x6_2 < (l0_4.length : Int)
                  · rw [if_pos c21] at H
                    have c21b0 : decide (x6_2 < (l0_4.length : Int)) = true := decide_eq_true c21
                    clear c21
                    have HC22 := Aside0.mk H
                    clear H
                    have hcz23_0 : wr.cell? ⟨gb1193, 0, none⟩ = some (.int .i64 a0_0) := (blk_cell BK1193.out 0).trans rfl
                    have hcz23_1 : wr.cell? ⟨gb1193, 1, none⟩ = some (.int .i64 a0_1) := (blk_cell BK1193.out 1).trans rfl
                    have hcz23_2 : wr.cell? ⟨gb1193, 2, none⟩ = some (.string a0_2) := (blk_cell BK1193.out 2).trans rfl
                    have hcz23_3 : wr.cell? ⟨gb1193, 3, none⟩ = some (.slice A0_3 l0_3.length c0_3) := (blk_cell BK1193.out 3).trans rfl
                    have hcz23_4 : wr.cell? ⟨gb1193, 4, none⟩ = some (.slice A0_4 l0_4.length c0_4) := (blk_cell BK1193.out 4).trans rfl
                    have hfz23_0 := blk_frozen BK1193.out 0
                    have hfz23_1 := blk_frozen BK1193.out 1
                    have hfz23_2 := blk_frozen BK1193.out 2
                    have hfz23_3 := blk_frozen BK1193.out 3
                    have hfz23_4 := blk_frozen BK1193.out 4
                    go_upto_if 38 with (fail)
                    go_cut [5] (fun v5 wc => ∃ (kq : Nat) (x5_21 : ByteArray), v5 = .string x5_21 ∧ Aside0 (spec_l4Text.j2 kq x4_17 x5_21 x6_2 a0_0 a0_1 a0_2 l0_3 l0_4 = some r) ∧ Aside0 (kq ≤ k2) ∧ Aside0 (wc.heap[gb1193]? = some (.cells #[.int .i64 a0_0, .int .i64 a0_1, .string a0_2, (.slice A0_3 l0_3.length c0_3), (.slice A0_4 l0_4.length c0_4)] 25 (0, 0))) ∧ Aside0 (Below w.heap.size w wc))
                    case first =>
                      have H := HC22.out
                      clear HC22
                      by_cases c24 : x6_2 > 0
                      · rw [if_pos c24] at H
                        have c24b0 : decide (0 < x6_2) = true := decide_eq_true c24
                        clear c24
                        (first | rw [c24b0] | (simp only [i64_w, i32_w]; rw [c24b0]) | skip)
                        by_cases c25 : x5_2.size + 1 ≤ 9223372036854775807
                        · rw [if_pos c25] at H
                          have c25b0 := eq_true c25
                          have c25b1 : decide (x5_2.size + 1 ≤ 9223372036854775807) = true := decide_eq_true c25
                          try have c25b2 : (9223372036854775807 < x5_2.size + 1) = False := eq_false (Nat.not_lt.2 c25)
                          have H' := Aside0.mk H
                          clear H
                          go_wp2
                          go_meet
                          case rel => exact ⟨_, (x5_2 ++ (⟨#[44]⟩ : ByteArray)), (by first | rfl | (simp; done) | (simp [*]; done)), H', ⟨by have := HJ17.out; have := HK2.out; first | omega | exact Nat.le_refl _⟩, ⟨by (with_reducible repeat (first | refine blk_drewN ?_ _ | refine blk_drew ?_ | refine blk_alloc ?_ _)); exact BK1193.out⟩, ⟨by repeat (first | (with_reducible first | exact HB.out | apply below_alloc | apply pw_below_drewN | apply below_drew1 | refine below_set ?_ GE1193.out) | exact HB.out)⟩⟩
                        · rw [if_neg c25] at H
                          exact absurd H (by simp)
                      · rw [if_neg c24] at H
                        have c24b0 : decide (0 < x6_2) = false := decide_eq_false c24
                        clear c24
                        (first | rw [c24b0] | (simp only [i64_w, i32_w]; rw [c24b0]) | skip)
                        have H' := Aside0.mk H
                        clear H
                        go_wp2
                        go_meet
                        case rel => exact ⟨_, (x5_2), (by first | rfl | (simp; done) | (simp [*]; done)), H', ⟨by have := HJ17.out; have := HK2.out; first | omega | exact Nat.le_refl _⟩, ⟨by (with_reducible repeat (first | refine blk_drewN ?_ _ | refine blk_drew ?_ | refine blk_alloc ?_ _)); exact BK1193.out⟩, ⟨by repeat (first | (with_reducible first | exact HB.out | apply below_alloc | apply pw_below_drewN | apply below_drew1 | refine below_set ?_ GE1193.out) | exact HB.out)⟩⟩
                    case rest =>
                      clear HC22
                      try clear c1
                      try clear c2
                      try clear p2
                      try clear c5
                      try clear c5b0
                      try clear c5b1
                      try clear c6
                      try clear c6b0
                      try clear c6b1
                      try clear c7
                      try clear c7b0
                      try clear c7b1
                      try clear c10
                      try clear c10b0
                      try clear c10b1
                      try clear c11
                      try clear c13
                      try clear c14
                      try clear c14b0
                      try clear c14b1
                      try clear c20
                      try clear c20b0
                      try clear c20b1
                      try clear c21
                      try clear c21b0
                      try clear c24
                      try clear c24b0
                      try clear c25
                      try clear c25b0
                      try clear c25b1
                      try clear c25b2
                      try clear hcz12_0
                      try clear hcz12_1
                      try clear hcz12_2
                      try clear hcz12_3
                      try clear hcz12_4
                      try clear hcz16_0
                      try clear hcz16_1
                      try clear hcz16_2
                      try clear hcz16_3
                      try clear hcz16_4
                      try clear hcz19_0
                      try clear hcz19_1
                      try clear hcz19_2
                      try clear hcz19_3
                      try clear hcz19_4
                      try clear hcz23_0
                      try clear hcz23_1
                      try clear hcz23_2
                      try clear hcz23_3
                      try clear hcz23_4
                      try clear hcz4_0
                      try clear hcz4_1
                      try clear hcz4_2
                      try clear hcz4_3
                      try clear hcz4_4
                      try clear hcz8_0
                      try clear hcz8_1
                      try clear hcz8_2
                      try clear hcz8_3
                      try clear hcz8_4
                      try clear hcz9_0
                      try clear hcz9_1
                      try clear hcz9_2
                      try clear hcz9_3
                      try clear hcz9_4
                      try clear hfz12_0
                      try clear hfz12_1
                      try clear hfz12_2
                      try clear hfz12_3
                      try clear hfz12_4
                      try clear hfz16_0
                      try clear hfz16_1
                      try clear hfz16_2
                      try clear hfz16_3
                      try clear hfz16_4
                      try clear hfz19_0
                      try clear hfz19_1
                      try clear hfz19_2
                      try clear hfz19_3
                      try clear hfz19_4
                      try clear hfz23_0
                      try clear hfz23_1
                      try clear hfz23_2
                      try clear hfz23_3
                      try clear hfz23_4
                      try clear hfz4_0
                      try clear hfz4_1
                      try clear hfz4_2
                      try clear hfz4_3
                      try clear hfz4_4
                      try clear hfz8_0
                      try clear hfz8_1
                      try clear hfz8_2
                      try clear hfz8_3
                      try clear hfz8_4
                      try clear hfz9_0
                      try clear hfz9_1
                      try clear hfz9_2
                      try clear hfz9_3
                      try clear hfz9_4
                      try clear p2
                      obtain ⟨kq, x5_21, rfl, HA, HJ21, BK1193, HB⟩ := hcut
                      cases kq with
                      | zero => exact absurd HA.out (by simp [spec_l4Text.j2])
                      | succ kj21 =>
                        have H := HA.out
                        clear HA
                        simp only [spec_l4Text.j2] at H
                        by_cases c26 : a0_0 = 5
                        · rw [if_pos c26] at H
                          have c26b0 : (a0_0 == 5) = true := beq_iff_eq.mpr c26
                          have c26b1 : (a0_0 != 5) = false := bne_eq_false_iff_eq.mpr c26
                          clear c26
                          by_cases c27 : 0 ≤ x6_2
                          · rw [if_pos c27] at H
                            have c27b0 : decide (0 ≤ x6_2) = true := decide_eq_true c27
                            clear c27
                            by_cases c28 : x6_2 < (l0_3.length : Int)
                            · rw [if_pos c28] at H
                              have c28b0 : decide (x6_2 < (l0_3.length : Int)) = true := decide_eq_true c28
                              clear c28
                              replace H := Option.bind_eq_some_iff.mp H
                              obtain ⟨t1197, A290, H⟩ := H
                              replace H : (if x5_21.size + t1197.size ≤ 9223372036854775807 then (if (x5_21 ++ t1197).size + 1 ≤ 9223372036854775807 then (if x6_2 < (l0_4.length : Int) then ((spec_l4Text.f kj21 ((rd_T25 l0_4 x6_2).f0) ((rd_T25 l0_4 x6_2).f1) ((rd_T25 l0_4 x6_2).f2) ((rd_T25 l0_4 x6_2).f3) ((rd_T25 l0_4 x6_2).f4)).bind fun t1199 => (if ((x5_21 ++ t1197) ++ (⟨#[58]⟩ : ByteArray)).size + t1199.size ≤ 9223372036854775807 then (spec_l4Text.l0 kj21 x4_17 (((x5_21 ++ t1197) ++ (⟨#[58]⟩ : ByteArray)) ++ t1199) (wrap64 (x6_2 + 1)) a0_0 a0_1 a0_2 l0_3 l0_4) else (none))) else (none)) else (none)) else (none)) = some r := H
                              have A29 := Aside0.mk A290
                              clear A290
                              by_cases c30 : x5_21.size + t1197.size ≤ 9223372036854775807
                              · rw [if_pos c30] at H
                                have c30b0 := eq_true c30
                                have c30b1 : decide (x5_21.size + t1197.size ≤ 9223372036854775807) = true := decide_eq_true c30
                                try have c30b2 : (9223372036854775807 < x5_21.size + t1197.size) = False := eq_false (Nat.not_lt.2 c30)
                                by_cases c31 : (x5_21 ++ t1197).size + 1 ≤ 9223372036854775807
                                · rw [if_pos c31] at H
                                  have c31b0 := eq_true c31
                                  have c31b1 : decide ((x5_21 ++ t1197).size + 1 ≤ 9223372036854775807) = true := decide_eq_true c31
                                  try have c31b2 : (9223372036854775807 < (x5_21 ++ t1197).size + 1) = False := eq_false (Nat.not_lt.2 c31)
                                  try have c31b3 : (9223372036854775807 < x5_21.size + t1197.size + 1) = False := eq_false (by have h_ := c31; simp only [ByteArray.size_append'] at h_; omega)
                                  by_cases c32 : x6_2 < (l0_4.length : Int)
                                  · rw [if_pos c32] at H
                                    have c32b0 : decide (x6_2 < (l0_4.length : Int)) = true := decide_eq_true c32
                                    clear c32
                                    replace H := Option.bind_eq_some_iff.mp H
                                    obtain ⟨t1199, A330, H⟩ := H
                                    replace H : (if ((x5_21 ++ t1197) ++ (⟨#[58]⟩ : ByteArray)).size + t1199.size ≤ 9223372036854775807 then (spec_l4Text.l0 kj21 x4_17 (((x5_21 ++ t1197) ++ (⟨#[58]⟩ : ByteArray)) ++ t1199) (wrap64 (x6_2 + 1)) a0_0 a0_1 a0_2 l0_3 l0_4) else (none)) = some r := H
                                    have A33 := Aside0.mk A330
                                    clear A330
                                    by_cases c34 : ((x5_21 ++ t1197) ++ (⟨#[58]⟩ : ByteArray)).size + t1199.size ≤ 9223372036854775807
                                    · rw [if_pos c34] at H
                                      have c34b0 := eq_true c34
                                      have c34b1 : decide (((x5_21 ++ t1197) ++ (⟨#[58]⟩ : ByteArray)).size + t1199.size ≤ 9223372036854775807) = true := decide_eq_true c34
                                      try have c34b2 : (9223372036854775807 < ((x5_21 ++ t1197) ++ (⟨#[58]⟩ : ByteArray)).size + t1199.size) = False := eq_false (Nat.not_lt.2 c34)
                                      try have c34b3 : (9223372036854775807 < x5_21.size + t1197.size + 1 + t1199.size) = False := eq_false (by have h_ := c34; have l0_ : (⟨#[58]⟩ : ByteArray).size = 1 := rfl; simp only [ByteArray.size_append'] at h_; omega)
                                      have H' := Aside0.mk H
                                      clear H
                                      have hcz35_0 : wc.cell? ⟨gb1193, 0, none⟩ = some (.int .i64 a0_0) := (blk_cell BK1193.out 0).trans rfl
                                      have hcz35_1 : wc.cell? ⟨gb1193, 1, none⟩ = some (.int .i64 a0_1) := (blk_cell BK1193.out 1).trans rfl
                                      have hcz35_2 : wc.cell? ⟨gb1193, 2, none⟩ = some (.string a0_2) := (blk_cell BK1193.out 2).trans rfl
                                      have hcz35_3 : wc.cell? ⟨gb1193, 3, none⟩ = some (.slice A0_3 l0_3.length c0_3) := (blk_cell BK1193.out 3).trans rfl
                                      have hcz35_4 : wc.cell? ⟨gb1193, 4, none⟩ = some (.slice A0_4 l0_4.length c0_4) := (blk_cell BK1193.out 4).trans rfl
                                      have hfz35_0 := blk_frozen BK1193.out 0
                                      have hfz35_1 := blk_frozen BK1193.out 1
                                      have hfz35_2 := blk_frozen BK1193.out 2
                                      have hfz35_3 := blk_frozen BK1193.out 3
                                      have hfz35_4 := blk_frozen BK1193.out 4
                                      have p1196 : 0 ≤ (x6_2 : Int) := of_decide_eq_true (by first | (with_reducible assumption) | assumption)
                                      have q1196 : x6_2 < (l0_3.length : Int) := of_decide_eq_true (by first | (with_reducible assumption) | assumption)
                                      obtain ⟨ad1196, e1196, hx1196_0⟩ := Kd.at_string HR0_3.out x6_2 p1196 q1196
                                      cases e1196
                                      replace hx1196_0 := (HB.out.cell (World.block_lt_of_cell? w _ hx1196_0)).trans hx1196_0
                                      replace p1196 := eq_true p1196
                                      replace q1196 := eq_true q1196
                                      go_wp2_with (first | ((with_reducible refine gate_callee (f := 140) rfl ?_); refine goesL_ (some 50) rfl rfl Try.func140 (by kernel_rfl) rfl #[.string (rdOf ByteArray.empty l0_3 x6_2)] rfl (by (try simp only [List.map_toArray, List.map_cons, List.map_nil]); first | done | rfl | (simp only [List.length_drop, List.length_take]; rfl)) ?_; (with_reducible refine (spec_Quote.calls kj21 (rdOf ByteArray.empty l0_3 x6_2) t1197 _ A29.out).mono ?_); rintro e w36 ⟨rfl, hb⟩; refine ⟨_, rfl, ?_⟩; have n0_ := Aside0.mk (blk_below (g := gb1193) (o := .cells #[.int .i64 a0_0, .int .i64 a0_1, .string a0_2, .slice (some ad1196) l0_3.length c0_3, .slice A0_4 l0_4.length c0_4] 25 (0, 0)) (by (with_reducible repeat (first | refine blk_drewN ?_ _ | refine blk_drew ?_ | refine blk_alloc ?_ _)); exact BK1193.out) hb); have n1_ := Aside0.mk (below_step (by repeat (first | (with_reducible first | exact HB.out | apply below_alloc | apply pw_below_drewN | apply below_drew1 | refine below_set ?_ GE1193.out) | exact HB.out)) hb); clear BK1193; clear HB; have BK1193 := n0_; have HB := n1_; clear n0_ n1_; (try clear hb); (try clear hb2); (try clear hk); (try clear hi); have hcz37_0 : w36.cell? ⟨gb1193, 0, none⟩ = some (.int .i64 a0_0) := (blk_cell BK1193.out 0).trans rfl; have hcz37_1 : w36.cell? ⟨gb1193, 1, none⟩ = some (.int .i64 a0_1) := (blk_cell BK1193.out 1).trans rfl; have hcz37_2 : w36.cell? ⟨gb1193, 2, none⟩ = some (.string a0_2) := (blk_cell BK1193.out 2).trans rfl; have hcz37_3 : w36.cell? ⟨gb1193, 3, none⟩ = some (.slice (some ad1196) l0_3.length c0_3) := (blk_cell BK1193.out 3).trans rfl; have hcz37_4 : w36.cell? ⟨gb1193, 4, none⟩ = some (.slice A0_4 l0_4.length c0_4) := (blk_cell BK1193.out 4).trans rfl; have hfz37_0 := blk_frozen BK1193.out 0; have hfz37_1 := blk_frozen BK1193.out 1; have hfz37_2 := blk_frozen BK1193.out 2; have hfz37_3 := blk_frozen BK1193.out 3; have hfz37_4 := blk_frozen BK1193.out 4; have p1198 : 0 ≤ (x6_2 : Int) := of_decide_eq_true (by first | (with_reducible assumption) | assumption); have q1198 : x6_2 < (l0_4.length : Int) := of_decide_eq_true (by first | (with_reducible assumption) | assumption); obtain ⟨ad1198, A1198_3, c1198_3, A1198_4, c1198_4, e1198, hx1198_0, hx1198_1, hx1198_2, hx1198_3, hx1198_4, hl1198_3, hi1198_3, hl1198_4, hi1198_4⟩ := at_T25 HR0_4.out x6_2 p1198 q1198; cases e1198; replace hx1198_0 := (HB.out.cell (World.block_lt_of_cell? w _ hx1198_0)).trans hx1198_0; replace hx1198_1 := (HB.out.cell (World.block_lt_of_cell? w _ hx1198_1)).trans hx1198_1; replace hx1198_2 := (HB.out.cell (World.block_lt_of_cell? w _ hx1198_2)).trans hx1198_2; replace hx1198_3 := (HB.out.cell (World.block_lt_of_cell? w _ hx1198_3)).trans hx1198_3; replace hx1198_4 := (HB.out.cell (World.block_lt_of_cell? w _ hx1198_4)).trans hx1198_4; have HR1198_3 := Aside0.mk hi1198_3; have HC1198_3 := Aside0.mk hl1198_3; clear hi1198_3 hl1198_3; have HR1198_4 := Aside0.mk hi1198_4; have HC1198_4 := Aside0.mk hl1198_4; clear hi1198_4 hl1198_4; replace p1198 := eq_true p1198; replace q1198 := eq_true q1198) | ((with_reducible refine gate_callee (f := 111) rfl ?_); refine goesL_ (some 59) rfl rfl Try.func111 (by kernel_rfl) rfl #[.agg #[.int .i64 ((rd_T25 l0_4 x6_2).f0), .int .i64 ((rd_T25 l0_4 x6_2).f1), .string ((rd_T25 l0_4 x6_2).f2), .slice A1198_3 ((rd_T25 l0_4 x6_2).f3).length c1198_3, .slice A1198_4 ((rd_T25 l0_4 x6_2).f4).length c1198_4]] rfl (by (try simp only [List.map_toArray, List.map_cons, List.map_nil]); first | done | rfl | (simp only [List.length_drop, List.length_take]; rfl)) ?_; (with_reducible refine (ih kj21 (by have := HJ17.out; have := HK2.out; have := HJ21.out; omega) ((rd_T25 l0_4 x6_2).f0) ((rd_T25 l0_4 x6_2).f1) ((rd_T25 l0_4 x6_2).f2) _ _ ((rd_T25 l0_4 x6_2).f3) _ _ ((rd_T25 l0_4 x6_2).f4) t1199 _ ?side1 ?side2 ?side3 ?side4 A33.out).mono ?_); (case side1 => repeat (first | exact (Kd.C_below HR1198_3.out HB.out) | (with_reducible refine Kd.C_alloc ?_ _) | (with_reducible refine Kd.C_drewN ?_ _) | (with_reducible refine Kd.C_drew ?_))); (case side2 => exact HC1198_3.out); (case side3 => repeat (first | exact (Kd.C_below HR1198_4.out HB.out) | (with_reducible refine Kd.C_alloc ?_ _) | (with_reducible refine Kd.C_drewN ?_ _) | (with_reducible refine Kd.C_drew ?_))); (case side4 => exact HC1198_4.out); rintro e w38 ⟨rfl, hb⟩; refine ⟨_, rfl, ?_⟩; have n0_ := Aside0.mk (blk_below (g := gb1193) (o := .cells #[.int .i64 a0_0, .int .i64 a0_1, .string a0_2, .slice (some ad1196) l0_3.length c0_3, .slice (some ad1198) l0_4.length c0_4] 25 (0, 0)) (by (with_reducible repeat (first | refine blk_drewN ?_ _ | refine blk_drew ?_ | refine blk_alloc ?_ _)); exact BK1193.out) hb); have n1_ := Aside0.mk (below_step (by repeat (first | (with_reducible first | exact HB.out | apply below_alloc | apply pw_below_drewN | apply below_drew1 | refine below_set ?_ GE1193.out) | exact HB.out)) hb); clear BK1193; clear HB; have BK1193 := n0_; have HB := n1_; clear n0_ n1_; (try clear hb); (try clear hb2); (try clear hk); (try clear hi)))
                                      go_roundg kj21
                                      case measure => have := HJ17.out; have := HK2.out; have := HJ21.out; omega
                                      case rel => exact ⟨(((x5_21 ++ t1197) ++ (⟨#[58]⟩ : ByteArray)) ++ t1199), (wrap64 (x6_2 + 1)), (by first | rfl | (simp; done) | (simp [*]; done)), (by first | rfl | (simp; done) | (simp [*]; done)), H', ⟨by have := HJ17.out; have := HK2.out; have := HJ21.out; omega⟩, ⟨by (with_reducible repeat (first | refine blk_drewN ?_ _ | refine blk_drew ?_ | refine blk_alloc ?_ _)); exact BK1193.out⟩, ⟨by repeat (first | (with_reducible first | exact HB.out | apply below_alloc | apply pw_below_drewN | apply below_drew1 | refine below_set ?_ GE1193.out) | exact HB.out)⟩⟩
                                    · rw [if_neg c34] at H
                                      exact absurd H (by simp)
                                  · rw [if_neg c32] at H
                                    exact absurd H (by simp)
                                · rw [if_neg c31] at H
                                  exact absurd H (by simp)
                              · rw [if_neg c30] at H
                                exact absurd H (by simp)
                            · rw [if_neg c28] at H
                              exact absurd H (by simp)
                          · rw [if_neg c27] at H
                            exact absurd H (by simp)
                        · rw [if_neg c26] at H
                          have c26b0 : (a0_0 == 5) = false := beq_eq_false_iff_ne.mpr c26
                          have c26b1 : (a0_0 != 5) = true := bne_iff_ne.mpr c26
                          by_cases c39 : 0 ≤ x6_2
                          · rw [if_pos c39] at H
                            have c39b0 : decide (0 ≤ x6_2) = true := decide_eq_true c39
                            clear c39
                            by_cases c40 : x6_2 < (l0_4.length : Int)
                            · rw [if_pos c40] at H
                              have c40b0 : decide (x6_2 < (l0_4.length : Int)) = true := decide_eq_true c40
                              clear c40
                              replace H := Option.bind_eq_some_iff.mp H
                              obtain ⟨t1201, A410, H⟩ := H
                              replace H : (if x5_21.size + t1201.size ≤ 9223372036854775807 then (spec_l4Text.l0 kj21 x4_17 (x5_21 ++ t1201) (wrap64 (x6_2 + 1)) a0_0 a0_1 a0_2 l0_3 l0_4) else (none)) = some r := H
                              have A41 := Aside0.mk A410
                              clear A410
                              by_cases c42 : x5_21.size + t1201.size ≤ 9223372036854775807
                              · rw [if_pos c42] at H
                                have c42b0 := eq_true c42
                                have c42b1 : decide (x5_21.size + t1201.size ≤ 9223372036854775807) = true := decide_eq_true c42
                                try have c42b2 : (9223372036854775807 < x5_21.size + t1201.size) = False := eq_false (Nat.not_lt.2 c42)
                                have H' := Aside0.mk H
                                clear H
                                have hcz43_0 : wc.cell? ⟨gb1193, 0, none⟩ = some (.int .i64 a0_0) := (blk_cell BK1193.out 0).trans rfl
                                have hcz43_1 : wc.cell? ⟨gb1193, 1, none⟩ = some (.int .i64 a0_1) := (blk_cell BK1193.out 1).trans rfl
                                have hcz43_2 : wc.cell? ⟨gb1193, 2, none⟩ = some (.string a0_2) := (blk_cell BK1193.out 2).trans rfl
                                have hcz43_3 : wc.cell? ⟨gb1193, 3, none⟩ = some (.slice A0_3 l0_3.length c0_3) := (blk_cell BK1193.out 3).trans rfl
                                have hcz43_4 : wc.cell? ⟨gb1193, 4, none⟩ = some (.slice A0_4 l0_4.length c0_4) := (blk_cell BK1193.out 4).trans rfl
                                have hfz43_0 := blk_frozen BK1193.out 0
                                have hfz43_1 := blk_frozen BK1193.out 1
                                have hfz43_2 := blk_frozen BK1193.out 2
                                have hfz43_3 := blk_frozen BK1193.out 3
                                have hfz43_4 := blk_frozen BK1193.out 4
                                have p1200 : 0 ≤ (x6_2 : Int) := of_decide_eq_true (by first | (with_reducible assumption) | assumption)
                                have q1200 : x6_2 < (l0_4.length : Int) := of_decide_eq_true (by first | (with_reducible assumption) | assumption)
                                obtain ⟨ad1200, A1200_3, c1200_3, A1200_4, c1200_4, e1200, hx1200_0, hx1200_1, hx1200_2, hx1200_3, hx1200_4, hl1200_3, hi1200_3, hl1200_4, hi1200_4⟩ := at_T25 HR0_4.out x6_2 p1200 q1200
                                cases e1200
                                replace hx1200_0 := (HB.out.cell (World.block_lt_of_cell? w _ hx1200_0)).trans hx1200_0
                                replace hx1200_1 := (HB.out.cell (World.block_lt_of_cell? w _ hx1200_1)).trans hx1200_1
                                replace hx1200_2 := (HB.out.cell (World.block_lt_of_cell? w _ hx1200_2)).trans hx1200_2
                                replace hx1200_3 := (HB.out.cell (World.block_lt_of_cell? w _ hx1200_3)).trans hx1200_3
                                replace hx1200_4 := (HB.out.cell (World.block_lt_of_cell? w _ hx1200_4)).trans hx1200_4
                                have HR1200_3 := Aside0.mk hi1200_3
                                have HC1200_3 := Aside0.mk hl1200_3
                                clear hi1200_3 hl1200_3
                                have HR1200_4 := Aside0.mk hi1200_4
                                have HC1200_4 := Aside0.mk hl1200_4
                                clear hi1200_4 hl1200_4
                                replace p1200 := eq_true p1200
                                replace q1200 := eq_true q1200
                                go_wp2_with (first | ((with_reducible refine gate_callee (f := 111) rfl ?_); refine goesL_ (some 59) rfl rfl Try.func111 (by kernel_rfl) rfl #[.agg #[.int .i64 ((rd_T25 l0_4 x6_2).f0), .int .i64 ((rd_T25 l0_4 x6_2).f1), .string ((rd_T25 l0_4 x6_2).f2), .slice A1200_3 ((rd_T25 l0_4 x6_2).f3).length c1200_3, .slice A1200_4 ((rd_T25 l0_4 x6_2).f4).length c1200_4]] rfl (by (try simp only [List.map_toArray, List.map_cons, List.map_nil]); first | done | rfl | (simp only [List.length_drop, List.length_take]; rfl)) ?_; (with_reducible refine (ih kj21 (by have := HJ17.out; have := HK2.out; have := HJ21.out; omega) ((rd_T25 l0_4 x6_2).f0) ((rd_T25 l0_4 x6_2).f1) ((rd_T25 l0_4 x6_2).f2) _ _ ((rd_T25 l0_4 x6_2).f3) _ _ ((rd_T25 l0_4 x6_2).f4) t1201 _ ?side1 ?side2 ?side3 ?side4 A41.out).mono ?_); (case side1 => repeat (first | exact (Kd.C_below HR1200_3.out HB.out) | (with_reducible refine Kd.C_alloc ?_ _) | (with_reducible refine Kd.C_drewN ?_ _) | (with_reducible refine Kd.C_drew ?_))); (case side2 => exact HC1200_3.out); (case side3 => repeat (first | exact (Kd.C_below HR1200_4.out HB.out) | (with_reducible refine Kd.C_alloc ?_ _) | (with_reducible refine Kd.C_drewN ?_ _) | (with_reducible refine Kd.C_drew ?_))); (case side4 => exact HC1200_4.out); rintro e w44 ⟨rfl, hb⟩; refine ⟨_, rfl, ?_⟩; have n0_ := Aside0.mk (blk_below (g := gb1193) (o := .cells #[.int .i64 a0_0, .int .i64 a0_1, .string a0_2, .slice A0_3 l0_3.length c0_3, .slice (some ad1200) l0_4.length c0_4] 25 (0, 0)) (by (with_reducible repeat (first | refine blk_drewN ?_ _ | refine blk_drew ?_ | refine blk_alloc ?_ _)); exact BK1193.out) hb); have n1_ := Aside0.mk (below_step (by repeat (first | (with_reducible first | exact HB.out | apply below_alloc | apply pw_below_drewN | apply below_drew1 | refine below_set ?_ GE1193.out) | exact HB.out)) hb); clear BK1193; clear HB; have BK1193 := n0_; have HB := n1_; clear n0_ n1_; (try clear hb); (try clear hb2); (try clear hk); (try clear hi)))
                                go_roundg kj21
                                case measure => have := HJ17.out; have := HK2.out; have := HJ21.out; omega
                                case rel => exact ⟨(x5_21 ++ t1201), (wrap64 (x6_2 + 1)), (by first | rfl | (simp; done) | (simp [*]; done)), (by first | rfl | (simp; done) | (simp [*]; done)), H', ⟨by have := HJ17.out; have := HK2.out; have := HJ21.out; omega⟩, ⟨by (with_reducible repeat (first | refine blk_drewN ?_ _ | refine blk_drew ?_ | refine blk_alloc ?_ _)); exact BK1193.out⟩, ⟨by repeat (first | (with_reducible first | exact HB.out | apply below_alloc | apply pw_below_drewN | apply below_drew1 | refine below_set ?_ GE1193.out) | exact HB.out)⟩⟩
                              · rw [if_neg c42] at H
                                exact absurd H (by simp)
                            · rw [if_neg c40] at H
                              exact absurd H (by simp)
                          · rw [if_neg c39] at H
                            exact absurd H (by simp)
                  · rw [if_neg c21] at H
                    have c21b0 : decide (x6_2 < (l0_4.length : Int)) = false := decide_eq_false c21
                    clear c21
                    by_cases c45 : x5_2.size + x4_17.size ≤ 9223372036854775807
                    · rw [if_pos c45] at H
                      have c45b0 := eq_true c45
                      have c45b1 : decide (x5_2.size + x4_17.size ≤ 9223372036854775807) = true := decide_eq_true c45
                      try have c45b2 : (9223372036854775807 < x5_2.size + x4_17.size) = False := eq_false (Nat.not_lt.2 c45)
                      obtain rfl := Option.some.inj H
                      have hcz46_0 : wr.cell? ⟨gb1193, 0, none⟩ = some (.int .i64 a0_0) := (blk_cell BK1193.out 0).trans rfl
                      have hcz46_1 : wr.cell? ⟨gb1193, 1, none⟩ = some (.int .i64 a0_1) := (blk_cell BK1193.out 1).trans rfl
                      have hcz46_2 : wr.cell? ⟨gb1193, 2, none⟩ = some (.string a0_2) := (blk_cell BK1193.out 2).trans rfl
                      have hcz46_3 : wr.cell? ⟨gb1193, 3, none⟩ = some (.slice A0_3 l0_3.length c0_3) := (blk_cell BK1193.out 3).trans rfl
                      have hcz46_4 : wr.cell? ⟨gb1193, 4, none⟩ = some (.slice A0_4 l0_4.length c0_4) := (blk_cell BK1193.out 4).trans rfl
                      have hfz46_0 := blk_frozen BK1193.out 0
                      have hfz46_1 := blk_frozen BK1193.out 1
                      have hfz46_2 := blk_frozen BK1193.out 2
                      have hfz46_3 := blk_frozen BK1193.out 3
                      have hfz46_4 := blk_frozen BK1193.out 4
                      go_wp2
                      go_ret
                      exact ⟨by first | rfl | (simp [errW_none, errW_some] <;> rfl) | (simp [*, errW_none, errW_some] <;> rfl), by repeat (first | (with_reducible first | exact HB.out | apply below_alloc | apply pw_below_drewN | apply below_drew1 | refine below_set ?_ GE1193.out) | exact HB.out)⟩
                    · rw [if_neg c45] at H
                      exact absurd H (by simp)

end Go.Proofs.Ytnbnpgjgibcmpaa.P
