-- Made by drive.py (a program of this session) over the kit's print; not written line by line by a hand.
import Derived.Test.YtnbnpgjgibcmpaaP0
import Derived.Test.YtnbnpgjgibcmpaaP_spec_Braced
import Derived.Test.YtnbnpgjgibcmpaaP_spec_Digits
namespace Go.Proofs.Ytnbnpgjgibcmpaa.P
open Go.RowKit Go.Proofs.YtnbnpgjgibcmpaaW.PrintWords Go.Proofs.YtnbnpgjgibcmpaaW.PrintLast Go.Proofs.YtnbnpgjgibcmpaaW.PrintMore
attribute [local go_sem] max2_int min2_int max_two min_two max_three min_three max_four min_four   -- for this text's walks alone
set_option linter.unusedVariables false
set_option linter.unusedSimpArgs false

/-! ### impl_braced: function 112 -/
mutual
def impl_braced.l0 : Nat → List ByteArray → List (S25) → Int → Int → Int → Int → ByteArray → List ByteArray → List (S25) → Option (ByteArray)
  | 0, _, _, _, _, _, _, _, _, _ => none
  | k + 1, x3, x28, x29, x30, x1228000, x1228001, x1228002, x1228003, x1228004 => if x30 < x29 then (if 0 ≤ x30 then (if x30 < (x28.length : Int) then ((impl_braced.f k ((rd_T25 x28 x30).f0) ((rd_T25 x28 x30).f1) ((rd_T25 x28 x30).f2) ((rd_T25 x28 x30).f3) ((rd_T25 x28 x30).f4)).bind fun t1235 => (if x1228000 = 5 then (if x30 < (x1228003.length : Int) then ((impl_Quote.f k (rdOf ByteArray.empty x1228003 x30)).bind fun t1237 => (if t1237.size + 1 ≤ 9223372036854775807 then (if (t1237 ++ (⟨#[58]⟩ : ByteArray)).size + t1235.size ≤ 9223372036854775807 then (if x3.length < 8796093022208 then (impl_braced.l0 k (x3 ++ [(t1237 ++ (⟨#[58]⟩ : ByteArray)) ++ t1235]) x28 x29 (wrap64 (x30 + 1)) x1228000 x1228001 x1228002 x1228003 x1228004) else (none)) else (none)) else (none))) else (none)) else (if x3.length < 8796093022208 then (impl_braced.l0 k (x3 ++ [t1235]) x28 x29 (wrap64 (x30 + 1)) x1228000 x1228001 x1228002 x1228003 x1228004) else (none)))) else (none)) else (none)) else (if x1228000 = 5 then ((strings_Join.f x3 (⟨#[44]⟩ : ByteArray)).bind fun t1244 => (if 1 + t1244.size ≤ 9223372036854775807 then (if ((⟨#[123]⟩ : ByteArray) ++ t1244).size + 1 ≤ 9223372036854775807 then (some (((⟨#[123]⟩ : ByteArray) ++ t1244) ++ (⟨#[125]⟩ : ByteArray))) else (none)) else (none))) else ((strings_Join.f x3 (⟨#[44]⟩ : ByteArray)).bind fun t1245 => (if 1 + t1245.size ≤ 9223372036854775807 then (if ((⟨#[91]⟩ : ByteArray) ++ t1245).size + 1 ≤ 9223372036854775807 then (some (((⟨#[91]⟩ : ByteArray) ++ t1245) ++ (⟨#[93]⟩ : ByteArray))) else (none)) else (none))))
def impl_braced.f : Nat → Int → Int → ByteArray → List ByteArray → List (S25) → Option (ByteArray)
  | 0, _, _, _, _, _ => none
  | k + 1, a0_0, a0_1, a0_2, l0_3, l0_4 => if a0_0 = 0 then (some (⟨#[110, 117, 108, 108]⟩ : ByteArray)) else (if a0_0 = 1 then (if a0_1 = 1 then (some (⟨#[116, 114, 117, 101]⟩ : ByteArray)) else (some (⟨#[102, 97, 108, 115, 101]⟩ : ByteArray))) else (if a0_0 = 2 then ((impl_Digits.f k a0_1).bind fun t1228 => (some t1228)) else (if a0_0 = 3 then ((impl_Quote.f k a0_2).bind fun t1229 => (some t1229)) else (impl_braced.l0 k (([] : List ByteArray)) l0_4 (l0_4.length : Int) 0 a0_0 a0_1 a0_2 l0_3 l0_4))))
end
theorem impl_braced.mono_l : ∀ k, (∀ y0 y1 y2 y3 y4, LeO (impl_braced.f k y0 y1 y2 y3 y4) (impl_braced.f (k + 1) y0 y1 y2 y3 y4)) ∧ (∀ y0 y1 y2 y3 y4 y5 y6 y7 y8, LeO (impl_braced.l0 k y0 y1 y2 y3 y4 y5 y6 y7 y8) (impl_braced.l0 (k + 1) y0 y1 y2 y3 y4 y5 y6 y7 y8))
  | 0 => ⟨fun _ _ _ _ _ r h => by simp [impl_braced.f] at h, fun _ _ _ _ _ _ _ _ _ r h => by simp [impl_braced.l0] at h⟩
  | k + 1 => by
    obtain ⟨ih0, ih1⟩ := impl_braced.mono_l k
    refine ⟨?_, ?_⟩
    · intro y0 y1 y2 y3 y4
      unfold impl_braced.f
      repeat' first
      | (with_reducible exact ih0 _ _ _ _ _)
      | (with_reducible exact ih1 _ _ _ _ _ _ _ _ _)
      | (with_reducible exact impl_Digits.mono _ _)
      | (with_reducible exact impl_Quote.mono _ _)
      | (with_reducible exact LeO.refl _)
      | (with_reducible exact LeO.none _)
      | (with_reducible refine LeO.ite ?_ ?_)
      | (with_reducible refine LeO.bind ?_ (fun _ => ?_))
      | exact ih0 _ _ _ _ _
      | exact ih1 _ _ _ _ _ _ _ _ _
      | exact impl_Digits.mono _ _
      | exact impl_Quote.mono _ _
      | exact LeO.none _
      | refine LeO.ite ?_ ?_
      | refine LeO.bind ?_ (fun _ => ?_)
    · intro y0 y1 y2 y3 y4 y5 y6 y7 y8
      unfold impl_braced.l0
      repeat' first
      | (with_reducible exact ih0 _ _ _ _ _)
      | (with_reducible exact ih1 _ _ _ _ _ _ _ _ _)
      | (with_reducible exact impl_Digits.mono _ _)
      | (with_reducible exact impl_Quote.mono _ _)
      | (with_reducible exact LeO.refl _)
      | (with_reducible exact LeO.none _)
      | (with_reducible refine LeO.ite ?_ ?_)
      | (with_reducible refine LeO.bind ?_ (fun _ => ?_))
      | exact ih0 _ _ _ _ _
      | exact ih1 _ _ _ _ _ _ _ _ _
      | exact impl_Digits.mono _ _
      | exact impl_Quote.mono _ _
      | exact LeO.none _
      | refine LeO.ite ?_ ?_
      | refine LeO.bind ?_ (fun _ => ?_)
theorem impl_braced.mono : ∀ a0 a1 a2 a3 a4 k, LeO (impl_braced.f k a0 a1 a2 a3 a4) (impl_braced.f (k + 1) a0 a1 a2 a3 a4) := by
  intro a0 a1 a2 a3 a4 k
  obtain ⟨ih0, ih1⟩ := impl_braced.mono_l k
  exact ih0 a0 a1 a2 a3 a4
set_option maxHeartbeats 8000000 in
set_option maxRecDepth 100000 in
theorem impl_braced.calls (k : Nat) : ∀ (a0_0 : Int) (a0_1 : Int) (a0_2 : ByteArray) (A0_3 : Option Addr) (c0_3 : Nat) (l0_3 : List ByteArray) (A0_4 : Option Addr) (c0_4 : Nat) (l0_4 : List (S25)) (r : ByteArray) (w : World) (hr0_3 : Kd.C Kd.string w A0_3 l0_3.length l0_3) (hc0_3 : l0_3.length ≤ c0_3) (hr0_4 : Kd.C k25 w A0_4 l0_4.length l0_4) (hc0_4 : l0_4.length ≤ c0_4) (h : impl_braced.f k a0_0 a0_1 a0_2 l0_3 l0_4 = some r),
    Calls Try.prog 112 #[.agg #[.int .i64 a0_0, .int .i64 a0_1, .string a0_2, .slice A0_3 l0_3.length c0_3, .slice A0_4 l0_4.length c0_4]] w fun e w' => e = .returned (.string r) ∧ Below w.heap.size w w' := by
  induction k using Nat.strongRecOn with
  | _ k ih =>
  intro a0_0 a0_1 a0_2 A0_3 c0_3 l0_3 A0_4 c0_4 l0_4 r w hr0_3 hc0_3 hr0_4 hc0_4 h
  cases k with
  | zero => exact absurd h (by simp [impl_braced.f])
  | succ k =>
  simp only [impl_braced.f] at h
  have hu25 := Try.underlying25
  have HR0_3 := Aside0.mk hr0_3
  have HC0_3 := Aside0.mk hc0_3
  clear hr0_3 hc0_3
  have HR0_4 := Aside0.mk hr0_4
  have HC0_4 := Aside0.mk hc0_4
  clear hr0_4 hc0_4
  have HB := Aside0.mk (Below.refl w.heap.size w)
  have H : (if a0_0 = 0 then (some (⟨#[110, 117, 108, 108]⟩ : ByteArray)) else (if a0_0 = 1 then (if a0_1 = 1 then (some (⟨#[116, 114, 117, 101]⟩ : ByteArray)) else (some (⟨#[102, 97, 108, 115, 101]⟩ : ByteArray))) else (if a0_0 = 2 then ((impl_Digits.f k a0_1).bind fun t1228 => (some t1228)) else (if a0_0 = 3 then ((impl_Quote.f k a0_2).bind fun t1229 => (some t1229)) else (impl_braced.l0 k (([] : List ByteArray)) l0_4 (l0_4.length : Int) 0 a0_0 a0_1 a0_2 l0_3 l0_4))))) = some r := h
  clear h
  have HC2 := Aside0.mk H
  clear H
  go_enter Try.func112, Try.ntmps112
  go_upto_if 9 with (first | ((with_reducible refine gate_dst (N := 1) rfl ?_); refine box_event ?hg (N := 1) ?hd (cs := #[.int .i64 a0_0, .int .i64 a0_1, .string a0_2, .slice A0_3 l0_3.length c0_3, .slice A0_4 l0_4.length c0_4]) (t := 25) ?hr ?_; (case hd => rfl); (case hg => rfl); (case hr => first | (go_simp; done) | (go_simp; rfl)); intro gb1227 hg w3 hbox hb; have n0_ := Aside0.mk (below_step (by repeat (first | (with_reducible first | exact HB.out | apply below_alloc | apply pw_below_drewN | apply below_drew1) | exact HB.out)) hb); have n1_ := Aside0.mk (hbox); have n2_ := Aside0.mk ((by rw [hg]; exact (below_size (by repeat (first | (with_reducible first | exact HB.out | apply below_alloc | apply pw_below_drewN | apply below_drew1) | exact HB.out))) : w.heap.size ≤ gb1227)); have n3_ := Aside0.mk ((by rw [hg]; exact (below_size (by repeat (first | (with_reducible first | exact HB.out | apply below_alloc | apply pw_below_drewN | apply below_drew1) | exact HB.out))) : w.heap.size ≤ gb1227)); clear HB; have HB := n0_; have BK1227 := n1_; have GW1227 := n2_; have GE1227 := n3_; clear n0_ n1_ n2_ n3_; clear hb hbox hg; have hcz4_0 : w3.cell? ⟨gb1227, 0, none⟩ = some (.int .i64 a0_0) := (blk_cell BK1227.out 0).trans rfl; have hcz4_1 : w3.cell? ⟨gb1227, 1, none⟩ = some (.int .i64 a0_1) := (blk_cell BK1227.out 1).trans rfl; have hcz4_2 : w3.cell? ⟨gb1227, 2, none⟩ = some (.string a0_2) := (blk_cell BK1227.out 2).trans rfl; have hcz4_3 : w3.cell? ⟨gb1227, 3, none⟩ = some (.slice A0_3 l0_3.length c0_3) := (blk_cell BK1227.out 3).trans rfl; have hcz4_4 : w3.cell? ⟨gb1227, 4, none⟩ = some (.slice A0_4 l0_4.length c0_4) := (blk_cell BK1227.out 4).trans rfl; have hfz4_0 := blk_frozen BK1227.out 0; have hfz4_1 := blk_frozen BK1227.out 1; have hfz4_2 := blk_frozen BK1227.out 2; have hfz4_3 := blk_frozen BK1227.out 3; have hfz4_4 := blk_frozen BK1227.out 4))
  (try simp only [Act.put, List.setIfInBounds_toArray, List.set_cons_zero, List.set_cons_succ])
  have H := HC2.out
  clear HC2
  by_cases c5 : a0_0 = 0
  · rw [if_pos c5] at H
    have c5b0 : (a0_0 == 0) = true := beq_iff_eq.mpr c5
    have c5b1 : (a0_0 != 0) = false := bne_eq_false_iff_eq.mpr c5
    clear c5
    (first | rw [c5b0] | rw [c5b1] | (simp only [i64_w, i32_w]; rw [c5b0]) | skip)
    obtain rfl := Option.some.inj H
    go_wp2
    go_ret
    exact ⟨by first | rfl | (simp [errW_none, errW_some] <;> rfl) | (simp [*, errW_none, errW_some] <;> rfl), by repeat (first | (with_reducible first | exact HB.out | apply below_alloc | apply pw_below_drewN | apply below_drew1 | refine below_set ?_ GE1227.out) | exact HB.out)⟩
  · rw [if_neg c5] at H
    have c5b0 : (a0_0 == 0) = false := beq_eq_false_iff_ne.mpr c5
    have c5b1 : (a0_0 != 0) = true := bne_iff_ne.mpr c5
    (first | rw [c5b0] | rw [c5b1] | (simp only [i64_w, i32_w]; rw [c5b0]) | skip)
    by_cases c6 : a0_0 = 1
    · rw [if_pos c6] at H
      have c6b0 : (a0_0 == 1) = true := beq_iff_eq.mpr c6
      have c6b1 : (a0_0 != 1) = false := bne_eq_false_iff_eq.mpr c6
      clear c6
      by_cases c7 : a0_1 = 1
      · rw [if_pos c7] at H
        have c7b0 : (a0_1 == 1) = true := beq_iff_eq.mpr c7
        have c7b1 : (a0_1 != 1) = false := bne_eq_false_iff_eq.mpr c7
        clear c7
        obtain rfl := Option.some.inj H
        have hcz8_0 : w3.cell? ⟨gb1227, 0, none⟩ = some (.int .i64 a0_0) := (blk_cell BK1227.out 0).trans rfl
        have hcz8_1 : w3.cell? ⟨gb1227, 1, none⟩ = some (.int .i64 a0_1) := (blk_cell BK1227.out 1).trans rfl
        have hcz8_2 : w3.cell? ⟨gb1227, 2, none⟩ = some (.string a0_2) := (blk_cell BK1227.out 2).trans rfl
        have hcz8_3 : w3.cell? ⟨gb1227, 3, none⟩ = some (.slice A0_3 l0_3.length c0_3) := (blk_cell BK1227.out 3).trans rfl
        have hcz8_4 : w3.cell? ⟨gb1227, 4, none⟩ = some (.slice A0_4 l0_4.length c0_4) := (blk_cell BK1227.out 4).trans rfl
        have hfz8_0 := blk_frozen BK1227.out 0
        have hfz8_1 := blk_frozen BK1227.out 1
        have hfz8_2 := blk_frozen BK1227.out 2
        have hfz8_3 := blk_frozen BK1227.out 3
        have hfz8_4 := blk_frozen BK1227.out 4
        go_wp2
        go_ret
        exact ⟨by first | rfl | (simp [errW_none, errW_some] <;> rfl) | (simp [*, errW_none, errW_some] <;> rfl), by repeat (first | (with_reducible first | exact HB.out | apply below_alloc | apply pw_below_drewN | apply below_drew1 | refine below_set ?_ GE1227.out) | exact HB.out)⟩
      · rw [if_neg c7] at H
        have c7b0 : (a0_1 == 1) = false := beq_eq_false_iff_ne.mpr c7
        have c7b1 : (a0_1 != 1) = true := bne_iff_ne.mpr c7
        obtain rfl := Option.some.inj H
        have hcz9_0 : w3.cell? ⟨gb1227, 0, none⟩ = some (.int .i64 a0_0) := (blk_cell BK1227.out 0).trans rfl
        have hcz9_1 : w3.cell? ⟨gb1227, 1, none⟩ = some (.int .i64 a0_1) := (blk_cell BK1227.out 1).trans rfl
        have hcz9_2 : w3.cell? ⟨gb1227, 2, none⟩ = some (.string a0_2) := (blk_cell BK1227.out 2).trans rfl
        have hcz9_3 : w3.cell? ⟨gb1227, 3, none⟩ = some (.slice A0_3 l0_3.length c0_3) := (blk_cell BK1227.out 3).trans rfl
        have hcz9_4 : w3.cell? ⟨gb1227, 4, none⟩ = some (.slice A0_4 l0_4.length c0_4) := (blk_cell BK1227.out 4).trans rfl
        have hfz9_0 := blk_frozen BK1227.out 0
        have hfz9_1 := blk_frozen BK1227.out 1
        have hfz9_2 := blk_frozen BK1227.out 2
        have hfz9_3 := blk_frozen BK1227.out 3
        have hfz9_4 := blk_frozen BK1227.out 4
        go_wp2
        go_ret
        exact ⟨by first | rfl | (simp [errW_none, errW_some] <;> rfl) | (simp [*, errW_none, errW_some] <;> rfl), by repeat (first | (with_reducible first | exact HB.out | apply below_alloc | apply pw_below_drewN | apply below_drew1 | refine below_set ?_ GE1227.out) | exact HB.out)⟩
    · rw [if_neg c6] at H
      have c6b0 : (a0_0 == 1) = false := beq_eq_false_iff_ne.mpr c6
      have c6b1 : (a0_0 != 1) = true := bne_iff_ne.mpr c6
      by_cases c10 : a0_0 = 2
      · rw [if_pos c10] at H
        have c10b0 : (a0_0 == 2) = true := beq_iff_eq.mpr c10
        have c10b1 : (a0_0 != 2) = false := bne_eq_false_iff_eq.mpr c10
        clear c10
        replace H := Option.bind_eq_some_iff.mp H
        obtain ⟨t1228, A110, H⟩ := H
        replace H : (some t1228) = some r := H
        have A11 := Aside0.mk A110
        clear A110
        obtain rfl := Option.some.inj H
        have hcz12_0 : w3.cell? ⟨gb1227, 0, none⟩ = some (.int .i64 a0_0) := (blk_cell BK1227.out 0).trans rfl
        have hcz12_1 : w3.cell? ⟨gb1227, 1, none⟩ = some (.int .i64 a0_1) := (blk_cell BK1227.out 1).trans rfl
        have hcz12_2 : w3.cell? ⟨gb1227, 2, none⟩ = some (.string a0_2) := (blk_cell BK1227.out 2).trans rfl
        have hcz12_3 : w3.cell? ⟨gb1227, 3, none⟩ = some (.slice A0_3 l0_3.length c0_3) := (blk_cell BK1227.out 3).trans rfl
        have hcz12_4 : w3.cell? ⟨gb1227, 4, none⟩ = some (.slice A0_4 l0_4.length c0_4) := (blk_cell BK1227.out 4).trans rfl
        have hfz12_0 := blk_frozen BK1227.out 0
        have hfz12_1 := blk_frozen BK1227.out 1
        have hfz12_2 := blk_frozen BK1227.out 2
        have hfz12_3 := blk_frozen BK1227.out 3
        have hfz12_4 := blk_frozen BK1227.out 4
        go_wp2_with (first | ((with_reducible refine gate_callee (f := 138) rfl ?_); refine goesL_ (some 20) rfl rfl Try.func138 (by kernel_rfl) rfl #[.int .i64 a0_1] rfl (by (try simp only [List.map_toArray, List.map_cons, List.map_nil]); first | done | rfl | (simp only [List.length_drop, List.length_take]; rfl)) ?_; (with_reducible refine (impl_Digits.calls k a0_1 t1228 _ A11.out).mono ?_); rintro e w' ⟨rfl, ⟨nd, rfl⟩⟩; refine ⟨_, rfl, ?_⟩))
        go_ret
        exact ⟨by first | rfl | (simp [errW_none, errW_some] <;> rfl) | (simp [*, errW_none, errW_some] <;> rfl), by repeat (first | (with_reducible first | exact HB.out | apply below_alloc | apply pw_below_drewN | apply below_drew1 | refine below_set ?_ GE1227.out) | exact HB.out)⟩
      · rw [if_neg c10] at H
        have c10b0 : (a0_0 == 2) = false := beq_eq_false_iff_ne.mpr c10
        have c10b1 : (a0_0 != 2) = true := bne_iff_ne.mpr c10
        by_cases c13 : a0_0 = 3
        · rw [if_pos c13] at H
          have c13b0 : (a0_0 == 3) = true := beq_iff_eq.mpr c13
          have c13b1 : (a0_0 != 3) = false := bne_eq_false_iff_eq.mpr c13
          clear c13
          replace H := Option.bind_eq_some_iff.mp H
          obtain ⟨t1229, A140, H⟩ := H
          replace H : (some t1229) = some r := H
          have A14 := Aside0.mk A140
          clear A140
          obtain rfl := Option.some.inj H
          have hcz15_0 : w3.cell? ⟨gb1227, 0, none⟩ = some (.int .i64 a0_0) := (blk_cell BK1227.out 0).trans rfl
          have hcz15_1 : w3.cell? ⟨gb1227, 1, none⟩ = some (.int .i64 a0_1) := (blk_cell BK1227.out 1).trans rfl
          have hcz15_2 : w3.cell? ⟨gb1227, 2, none⟩ = some (.string a0_2) := (blk_cell BK1227.out 2).trans rfl
          have hcz15_3 : w3.cell? ⟨gb1227, 3, none⟩ = some (.slice A0_3 l0_3.length c0_3) := (blk_cell BK1227.out 3).trans rfl
          have hcz15_4 : w3.cell? ⟨gb1227, 4, none⟩ = some (.slice A0_4 l0_4.length c0_4) := (blk_cell BK1227.out 4).trans rfl
          have hfz15_0 := blk_frozen BK1227.out 0
          have hfz15_1 := blk_frozen BK1227.out 1
          have hfz15_2 := blk_frozen BK1227.out 2
          have hfz15_3 := blk_frozen BK1227.out 3
          have hfz15_4 := blk_frozen BK1227.out 4
          go_wp2_with (first | ((with_reducible refine gate_callee (f := 141) rfl ?_); refine goesL_ (some 25) rfl rfl Try.func141 (by kernel_rfl) rfl #[.string a0_2] rfl (by (try simp only [List.map_toArray, List.map_cons, List.map_nil]); first | done | rfl | (simp only [List.length_drop, List.length_take]; rfl)) ?_; (with_reducible refine (impl_Quote.calls k a0_2 t1229 _ A14.out).mono ?_); rintro e w16 ⟨rfl, hb⟩; refine ⟨_, rfl, ?_⟩; have n0_ := Aside0.mk (blk_below (g := gb1227) (o := .cells #[.int .i64 a0_0, .int .i64 a0_1, .string a0_2, .slice A0_3 l0_3.length c0_3, .slice A0_4 l0_4.length c0_4] 25 (0, 0)) (by (with_reducible repeat (first | refine blk_drewN ?_ _ | refine blk_drew ?_ | refine blk_alloc ?_ _)); exact BK1227.out) hb); have n1_ := Aside0.mk (below_step (by repeat (first | (with_reducible first | exact HB.out | apply below_alloc | apply pw_below_drewN | apply below_drew1 | refine below_set ?_ GE1227.out) | exact HB.out)) hb); clear BK1227; clear HB; have BK1227 := n0_; have HB := n1_; clear n0_ n1_; (try clear hb); (try clear hb2); (try clear hk); (try clear hi)))
          go_ret
          exact ⟨by first | rfl | (simp [errW_none, errW_some] <;> rfl) | (simp [*, errW_none, errW_some] <;> rfl), by repeat (first | (with_reducible first | exact HB.out | apply below_alloc | apply pw_below_drewN | apply below_drew1 | refine below_set ?_ GE1227.out) | exact HB.out)⟩
        · rw [if_neg c13] at H
          have c13b0 : (a0_0 == 3) = false := beq_eq_false_iff_ne.mpr c13
          have c13b1 : (a0_0 != 3) = true := bne_iff_ne.mpr c13
          obtain ⟨y1230, hy1230⟩ : ∃ y_ : List ByteArray, y_ = (([] : List ByteArray)) := ⟨_, rfl⟩
          replace H : (impl_braced.l0 k y1230 l0_4 (l0_4.length : Int) 0 a0_0 a0_1 a0_2 l0_3 l0_4) = some r := by first | (rw [hy1230]; with_reducible exact H) | (have H2_ := (Option.bind_some _ _).symm.trans H; rw [hy1230]; with_reducible exact H2_) | (have H2_ := (Option.bind_some _ _).symm.trans H; with_reducible exact H2_) | with_reducible exact H | (rw [hy1230]; exact H) | exact H
          have Ny1230 := Aside0.mk hy1230
          clear hy1230
          have H' := Aside0.mk H
          clear H
          go_wp2_with (first | ((with_reducible refine gate_dst (N := 26) rfl ?_); refine Kd.R_lit Kd.string _ 9 ?hg (N := 26) ?hd (xs := ([] : List ByteArray)) (inner := []) (ok := fun _ => True) (okp := fun _ => True) ?hr ?hp (fun _ hk => hk) trivial (Below.refl _ _) (Nat.le_refl _) (by simp) ?_; (case hd => rfl); (case hg => rfl); (case hr => first | (go_simp; done) | (go_simp; rfl)); (case hp => exact (Reps.none _ _)); intro v1231 w17 ho18 hb hg_ hnew_; clear hg_ hnew_; (first | rw [← Ny1230.out] at ho18 | (simp only [Int.reduceToNat] at ho18; rw [← Ny1230.out] at ho18)); have n0_ := Aside0.mk (Kd.R_lower ho18 (below_size (by repeat (first | (with_reducible first | exact HB.out | apply below_alloc | apply pw_below_drewN | apply below_drew1 | refine below_set ?_ GE1227.out) | exact HB.out)))); have n1_ := Aside0.mk (blk_below (g := gb1227) (o := .cells #[.int .i64 a0_0, .int .i64 a0_1, .string a0_2, .slice A0_3 l0_3.length c0_3, .slice A0_4 l0_4.length c0_4] 25 (0, 0)) (by (with_reducible repeat (first | refine blk_drewN ?_ _ | refine blk_drew ?_ | refine blk_alloc ?_ _)); exact BK1227.out) hb); have n2_ := Aside0.mk (below_step (by repeat (first | (with_reducible first | exact HB.out | apply below_alloc | apply pw_below_drewN | apply below_drew1 | refine below_set ?_ GE1227.out) | exact HB.out)) hb); clear BK1227; clear HB; have HO1232 := n0_; have BK1227 := n1_; have HB := n2_; clear n0_ n1_ n2_; clear hb ho18; have hcz19_0 : w17.cell? ⟨gb1227, 0, none⟩ = some (.int .i64 a0_0) := (blk_cell BK1227.out 0).trans rfl; have hcz19_1 : w17.cell? ⟨gb1227, 1, none⟩ = some (.int .i64 a0_1) := (blk_cell BK1227.out 1).trans rfl; have hcz19_2 : w17.cell? ⟨gb1227, 2, none⟩ = some (.string a0_2) := (blk_cell BK1227.out 2).trans rfl; have hcz19_3 : w17.cell? ⟨gb1227, 3, none⟩ = some (.slice A0_3 l0_3.length c0_3) := (blk_cell BK1227.out 3).trans rfl; have hcz19_4 : w17.cell? ⟨gb1227, 4, none⟩ = some (.slice A0_4 l0_4.length c0_4) := (blk_cell BK1227.out 4).trans rfl; have hfz19_0 := blk_frozen BK1227.out 0; have hfz19_1 := blk_frozen BK1227.out 1; have hfz19_2 := blk_frozen BK1227.out 2; have hfz19_3 := blk_frozen BK1227.out 3; have hfz19_4 := blk_frozen BK1227.out 4))
          go_loopg [3, 30] k (fun kq v3 v30 w' => ∃ (x3_1 : List ByteArray) (x30_1 : Int), v30 = .int .i64 x30_1 ∧ Aside0 (impl_braced.l0 kq x3_1 l0_4 (l0_4.length : Int) x30_1 a0_0 a0_1 a0_2 l0_3 l0_4 = some r) ∧ Aside0 (kq ≤ k) ∧ Aside0 (Kd.R Kd.string 9 w' w.heap.size (fun _ => True) v3 x3_1) ∧ Aside0 (w'.heap[gb1227]? = some (.cells #[.int .i64 a0_0, .int .i64 a0_1, .string a0_2, (.slice A0_3 l0_3.length c0_3), (.slice A0_4 l0_4.length c0_4)] 25 (0, 0))) ∧ Aside0 (Below w.heap.size w w'))
          case atStart => exact ⟨(y1230), (0), (by first | rfl | (simp; done) | (simp [*]; done)), H', ⟨Nat.le_refl _⟩, ⟨by (with_reducible repeat (first | apply Kd.R_alloc | apply Kd.R_drewN | apply Kd.R_drew)); exact HO1232.out⟩, ⟨by (with_reducible repeat (first | refine blk_drewN ?_ _ | refine blk_drew ?_ | refine blk_alloc ?_ _)); exact BK1227.out⟩, ⟨by repeat (first | (with_reducible first | exact HB.out | apply below_alloc | apply pw_below_drewN | apply below_drew1 | refine below_set ?_ GE1227.out) | exact HB.out)⟩⟩
          case round =>
            clear H'
            try clear c1
            try clear p2
            try clear c5
            try clear c5b0
            try clear c5b1
            try clear c6
            try clear c6b0
            try clear c6b1
            try clear c7
            try clear c7b0
            try clear c7b1
            try clear c10
            try clear c10b0
            try clear c10b1
            try clear c11
            try clear c13
            try clear c13b0
            try clear c13b1
            try clear c14
            try clear hcz12_0
            try clear hcz12_1
            try clear hcz12_2
            try clear hcz12_3
            try clear hcz12_4
            try clear hcz15_0
            try clear hcz15_1
            try clear hcz15_2
            try clear hcz15_3
            try clear hcz15_4
            try clear hcz19_0
            try clear hcz19_1
            try clear hcz19_2
            try clear hcz19_3
            try clear hcz19_4
            try clear hcz4_0
            try clear hcz4_1
            try clear hcz4_2
            try clear hcz4_3
            try clear hcz4_4
            try clear hcz8_0
            try clear hcz8_1
            try clear hcz8_2
            try clear hcz8_3
            try clear hcz8_4
            try clear hcz9_0
            try clear hcz9_1
            try clear hcz9_2
            try clear hcz9_3
            try clear hcz9_4
            try clear hfz12_0
            try clear hfz12_1
            try clear hfz12_2
            try clear hfz12_3
            try clear hfz12_4
            try clear hfz15_0
            try clear hfz15_1
            try clear hfz15_2
            try clear hfz15_3
            try clear hfz15_4
            try clear hfz19_0
            try clear hfz19_1
            try clear hfz19_2
            try clear hfz19_3
            try clear hfz19_4
            try clear hfz4_0
            try clear hfz4_1
            try clear hfz4_2
            try clear hfz4_3
            try clear hfz4_4
            try clear hfz8_0
            try clear hfz8_1
            try clear hfz8_2
            try clear hfz8_3
            try clear hfz8_4
            try clear hfz9_0
            try clear hfz9_1
            try clear hfz9_2
            try clear hfz9_3
            try clear hfz9_4
            obtain ⟨x3_1, x30_1, rfl, HA, HK1, HO_3, BK1227, HB⟩ := hrel
            cases gk with
            | zero => exact absurd HA.out (by simp [impl_braced.l0])
            | succ k1 =>
              have H := HA.out
              clear HA
              simp only [impl_braced.l0] at H
              by_cases c20 : x30_1 < (l0_4.length : Int)
              · rw [if_pos c20] at H
                have c20b0 : decide (x30_1 < (l0_4.length : Int)) = true := decide_eq_true c20
                clear c20
                by_cases c21 : 0 ≤ x30_1
                · rw [if_pos c21] at H
                  have c21b0 : decide (0 ≤ x30_1) = true := decide_eq_true c21
                  clear c21
                  by_cases c22 : x30_1 < (l0_4.length : Int)
                  · rw [if_pos c22] at H
                    have c22b0 : decide (x30_1 < (l0_4.length : Int)) = true := decide_eq_true c22
                    clear c22
                    replace H := Option.bind_eq_some_iff.mp H
                    obtain ⟨t1235, A230, H⟩ := H
                    replace H : (if a0_0 = 5 then (if x30_1 < (l0_3.length : Int) then ((impl_Quote.f k1 (rdOf ByteArray.empty l0_3 x30_1)).bind fun t1237 => (if t1237.size + 1 ≤ 9223372036854775807 then (if (t1237 ++ (⟨#[58]⟩ : ByteArray)).size + t1235.size ≤ 9223372036854775807 then (if x3_1.length < 8796093022208 then (impl_braced.l0 k1 (x3_1 ++ [(t1237 ++ (⟨#[58]⟩ : ByteArray)) ++ t1235]) l0_4 (l0_4.length : Int) (wrap64 (x30_1 + 1)) a0_0 a0_1 a0_2 l0_3 l0_4) else (none)) else (none)) else (none))) else (none)) else (if x3_1.length < 8796093022208 then (impl_braced.l0 k1 (x3_1 ++ [t1235]) l0_4 (l0_4.length : Int) (wrap64 (x30_1 + 1)) a0_0 a0_1 a0_2 l0_3 l0_4) else (none))) = some r := H
                    have A23 := Aside0.mk A230
                    clear A230
                    have HC24 := Aside0.mk H
                    clear H
                    have p1233 : 0 ≤ (x30_1 : Int) := of_decide_eq_true (by first | (with_reducible assumption) | assumption)
                    have q1233 : x30_1 < (l0_4.length : Int) := of_decide_eq_true (by first | (with_reducible assumption) | assumption)
                    obtain ⟨ad1233, A1233_3, c1233_3, A1233_4, c1233_4, e1233, hx1233_0, hx1233_1, hx1233_2, hx1233_3, hx1233_4, hl1233_3, hi1233_3, hl1233_4, hi1233_4⟩ := at_T25 HR0_4.out x30_1 p1233 q1233
                    cases e1233
                    replace hx1233_0 := (HB.out.cell (World.block_lt_of_cell? w _ hx1233_0)).trans hx1233_0
                    replace hx1233_1 := (HB.out.cell (World.block_lt_of_cell? w _ hx1233_1)).trans hx1233_1
                    replace hx1233_2 := (HB.out.cell (World.block_lt_of_cell? w _ hx1233_2)).trans hx1233_2
                    replace hx1233_3 := (HB.out.cell (World.block_lt_of_cell? w _ hx1233_3)).trans hx1233_3
                    replace hx1233_4 := (HB.out.cell (World.block_lt_of_cell? w _ hx1233_4)).trans hx1233_4
                    have HR1233_3 := Aside0.mk hi1233_3
                    have HC1233_3 := Aside0.mk hl1233_3
                    clear hi1233_3 hl1233_3
                    have HR1233_4 := Aside0.mk hi1233_4
                    have HC1233_4 := Aside0.mk hl1233_4
                    clear hi1233_4 hl1233_4
                    replace p1233 := eq_true p1233
                    replace q1233 := eq_true q1233
                    go_upto_if 39 with (first | ((with_reducible refine gate_dst (N := 5) rfl ?_); refine box_event ?hg (N := 5) ?hd (cs := #[.int .i64 0, .int .i64 0, .string (⟨#[]⟩ : ByteArray), .slice none 0 0, .slice none 0 0]) (t := 25) ?hr ?_; (case hd => rfl); (case hg => rfl); (case hr => first | (go_simp; done) | (go_simp; rfl)); intro gb1234 hg w25 hbox hb; have n0_ := Aside0.mk (Kd.R_below (by (with_reducible repeat (first | apply Kd.R_alloc | apply Kd.R_drewN | apply Kd.R_drew)); exact HO_3.out) hb); have n1_ := Aside0.mk (blk_below (g := gb1227) (o := .cells #[.int .i64 a0_0, .int .i64 a0_1, .string a0_2, .slice A0_3 l0_3.length c0_3, .slice (some ad1233) l0_4.length c0_4] 25 (0, 0)) (by (with_reducible repeat (first | refine blk_drewN ?_ _ | refine blk_drew ?_ | refine blk_alloc ?_ _)); exact BK1227.out) hb); have n2_ := Aside0.mk (below_step (by repeat (first | (with_reducible first | exact HB.out | apply below_alloc | apply pw_below_drewN | apply below_drew1 | refine below_set ?_ GE1227.out) | exact HB.out)) hb); have n3_ := Aside0.mk (hbox); have n4_ := Aside0.mk ((by rw [hg]; exact (below_size (by repeat (first | (with_reducible first | exact HB.out | apply below_alloc | apply pw_below_drewN | apply below_drew1 | refine below_set ?_ GE1227.out) | exact HB.out))) : w.heap.size ≤ gb1234)); have n5_ := Aside0.mk ((by rw [hg]; exact (below_size (by repeat (first | (with_reducible first | exact HB.out | apply below_alloc | apply pw_below_drewN | apply below_drew1 | refine below_set ?_ GE1227.out) | exact HB.out))) : w.heap.size ≤ gb1234)); have n6_ := Aside0.mk ((by rw [hg]; exact Nat.ne_of_lt (blk_lt (g := gb1227) (o := .cells #[.int .i64 a0_0, .int .i64 a0_1, .string a0_2, .slice A0_3 l0_3.length c0_3, .slice (some ad1233) l0_4.length c0_4] 25 (0, 0)) (by (with_reducible repeat (first | refine blk_drewN ?_ _ | refine blk_drew ?_ | refine blk_alloc ?_ _)); exact BK1227.out)) : gb1227 ≠ gb1234)); have n7_ := Aside0.mk ((by rw [hg]; exact Nat.ne_of_gt (blk_lt (g := gb1227) (o := .cells #[.int .i64 a0_0, .int .i64 a0_1, .string a0_2, .slice A0_3 l0_3.length c0_3, .slice (some ad1233) l0_4.length c0_4] 25 (0, 0)) (by (with_reducible repeat (first | refine blk_drewN ?_ _ | refine blk_drew ?_ | refine blk_alloc ?_ _)); exact BK1227.out)) : gb1234 ≠ gb1227)); clear HO_3; clear BK1227; clear HB; have HO_3 := n0_; have BK1227 := n1_; have HB := n2_; have BK1234 := n3_; have GW1234 := n4_; have GE1234 := n5_; have NB1227_1234 := n6_; have NB1234_1227 := n7_; clear n0_ n1_ n2_ n3_ n4_ n5_ n6_ n7_; clear hb hbox hg; have hnb26 := NB1234_1227.out; have hnc26 := NB1227_1234.out; have hcz27_0 : w25.cell? ⟨gb1234, 0, none⟩ = some (.int .i64 0) := (blk_cell BK1234.out 0).trans rfl; have hcz27_1 : w25.cell? ⟨gb1234, 1, none⟩ = some (.int .i64 0) := (blk_cell BK1234.out 1).trans rfl; have hcz27_2 : w25.cell? ⟨gb1234, 2, none⟩ = some (.string (⟨#[]⟩ : ByteArray)) := (blk_cell BK1234.out 2).trans rfl; have hcz27_3 : w25.cell? ⟨gb1234, 3, none⟩ = some (.slice none 0 0) := (blk_cell BK1234.out 3).trans rfl; have hcz27_4 : w25.cell? ⟨gb1234, 4, none⟩ = some (.slice none 0 0) := (blk_cell BK1234.out 4).trans rfl; have hfz27_0 := blk_frozen BK1234.out 0; have hfz27_1 := blk_frozen BK1234.out 1; have hfz27_2 := blk_frozen BK1234.out 2; have hfz27_3 := blk_frozen BK1234.out 3; have hfz27_4 := blk_frozen BK1234.out 4) | ((with_reducible refine gate_callee (f := 112) rfl ?_); refine goesL_ (some 36) rfl rfl Try.func112 (by kernel_rfl) rfl #[.agg #[.int .i64 ((rd_T25 l0_4 x30_1).f0), .int .i64 ((rd_T25 l0_4 x30_1).f1), .string ((rd_T25 l0_4 x30_1).f2), .slice A1233_3 ((rd_T25 l0_4 x30_1).f3).length c1233_3, .slice A1233_4 ((rd_T25 l0_4 x30_1).f4).length c1233_4]] rfl (by (try simp only [List.map_toArray, List.map_cons, List.map_nil]); first | done | rfl | (simp only [List.length_drop, List.length_take]; rfl)) ?_; (with_reducible refine (ih k1 (by have := HK1.out; omega) ((rd_T25 l0_4 x30_1).f0) ((rd_T25 l0_4 x30_1).f1) ((rd_T25 l0_4 x30_1).f2) _ _ ((rd_T25 l0_4 x30_1).f3) _ _ ((rd_T25 l0_4 x30_1).f4) t1235 _ ?side1 ?side2 ?side3 ?side4 A23.out).mono ?_); (case side1 => exact Kd.C_below HR1233_3.out (by repeat (first | (with_reducible first | exact HB.out | apply below_alloc | apply pw_below_drewN | apply below_drew1 | refine below_set ?_ GE1227.out | refine below_set ?_ GE1234.out) | exact HB.out))); (case side2 => exact HC1233_3.out); (case side3 => exact Kd.C_below HR1233_4.out (by repeat (first | (with_reducible first | exact HB.out | apply below_alloc | apply pw_below_drewN | apply below_drew1 | refine below_set ?_ GE1227.out | refine below_set ?_ GE1234.out) | exact HB.out))); (case side4 => exact HC1233_4.out); rintro e w28 ⟨rfl, hb⟩; refine ⟨_, rfl, ?_⟩; have n0_ := Aside0.mk (Kd.R_below (by (with_reducible repeat (first | apply Kd.R_alloc | apply Kd.R_drewN | apply Kd.R_drew)); exact (Kd.R_mono (Kd.R_far (p := ⟨gb1234, 4, none⟩) (Kd.R_far (p := ⟨gb1234, 3, none⟩) (Kd.R_far (p := ⟨gb1234, 2, none⟩) (Kd.R_far (p := ⟨gb1234, 1, none⟩) (Kd.R_far (p := ⟨gb1234, 0, none⟩) (Kd.R_types HO_3.out BK1234.out (by decide)) (fun _ hk => hk.2) (.int .i64 ((rd_T25 l0_4 x30_1).f0))) (fun _ hk => hk.2) (.int .i64 ((rd_T25 l0_4 x30_1).f1))) (fun _ hk => hk.2) (.string ((rd_T25 l0_4 x30_1).f2))) (fun _ hk => hk.2) (.slice A1233_3 ((rd_T25 l0_4 x30_1).f3).length c1233_3)) (fun _ hk => hk.2) (.slice A1233_4 ((rd_T25 l0_4 x30_1).f4).length c1233_4)) (fun _ h_ => h_.1))) hb); have n1_ := Aside0.mk (blk_below (g := gb1227) (o := .cells #[.int .i64 a0_0, .int .i64 a0_1, .string a0_2, .slice A0_3 l0_3.length c0_3, .slice (some ad1233) l0_4.length c0_4] 25 (0, 0)) (by (with_reducible repeat (first | refine blk_drewN ?_ _ | refine blk_drew ?_ | refine blk_alloc ?_ _)); refine blk_far ?_ NB1227_1234.out _; (with_reducible repeat (first | refine blk_drewN ?_ _ | refine blk_drew ?_ | refine blk_alloc ?_ _)); refine blk_far ?_ NB1227_1234.out _; (with_reducible repeat (first | refine blk_drewN ?_ _ | refine blk_drew ?_ | refine blk_alloc ?_ _)); refine blk_far ?_ NB1227_1234.out _; (with_reducible repeat (first | refine blk_drewN ?_ _ | refine blk_drew ?_ | refine blk_alloc ?_ _)); refine blk_far ?_ NB1227_1234.out _; (with_reducible repeat (first | refine blk_drewN ?_ _ | refine blk_drew ?_ | refine blk_alloc ?_ _)); refine blk_far ?_ NB1227_1234.out _; (with_reducible repeat (first | refine blk_drewN ?_ _ | refine blk_drew ?_ | refine blk_alloc ?_ _)); exact BK1227.out) hb); have n2_ := Aside0.mk (blk_below (g := gb1234) (o := .cells #[.int .i64 ((rd_T25 l0_4 x30_1).f0), .int .i64 ((rd_T25 l0_4 x30_1).f1), .string ((rd_T25 l0_4 x30_1).f2), .slice A1233_3 ((rd_T25 l0_4 x30_1).f3).length c1233_3, .slice A1233_4 ((rd_T25 l0_4 x30_1).f4).length c1233_4] 25 (0, 0)) (by (with_reducible repeat (first | refine blk_drewN ?_ _ | refine blk_drew ?_ | refine blk_alloc ?_ _)); refine blk_put (cs := #[.int .i64 ((rd_T25 l0_4 x30_1).f0), .int .i64 ((rd_T25 l0_4 x30_1).f1), .string ((rd_T25 l0_4 x30_1).f2), .slice A1233_3 ((rd_T25 l0_4 x30_1).f3).length c1233_3, .slice none 0 0]) ?_ 4 _ rfl; (with_reducible repeat (first | refine blk_drewN ?_ _ | refine blk_drew ?_ | refine blk_alloc ?_ _)); refine blk_put (cs := #[.int .i64 ((rd_T25 l0_4 x30_1).f0), .int .i64 ((rd_T25 l0_4 x30_1).f1), .string ((rd_T25 l0_4 x30_1).f2), .slice none 0 0, .slice none 0 0]) ?_ 3 _ rfl; (with_reducible repeat (first | refine blk_drewN ?_ _ | refine blk_drew ?_ | refine blk_alloc ?_ _)); refine blk_put (cs := #[.int .i64 ((rd_T25 l0_4 x30_1).f0), .int .i64 ((rd_T25 l0_4 x30_1).f1), .string (⟨#[]⟩ : ByteArray), .slice none 0 0, .slice none 0 0]) ?_ 2 _ rfl; (with_reducible repeat (first | refine blk_drewN ?_ _ | refine blk_drew ?_ | refine blk_alloc ?_ _)); refine blk_put (cs := #[.int .i64 ((rd_T25 l0_4 x30_1).f0), .int .i64 0, .string (⟨#[]⟩ : ByteArray), .slice none 0 0, .slice none 0 0]) ?_ 1 _ rfl; (with_reducible repeat (first | refine blk_drewN ?_ _ | refine blk_drew ?_ | refine blk_alloc ?_ _)); refine blk_put (cs := #[.int .i64 0, .int .i64 0, .string (⟨#[]⟩ : ByteArray), .slice none 0 0, .slice none 0 0]) ?_ 0 _ rfl; (with_reducible repeat (first | refine blk_drewN ?_ _ | refine blk_drew ?_ | refine blk_alloc ?_ _)); exact BK1234.out) hb); have n3_ := Aside0.mk (below_step (by repeat (first | (with_reducible first | exact HB.out | apply below_alloc | apply pw_below_drewN | apply below_drew1 | refine below_set ?_ GE1227.out | refine below_set ?_ GE1234.out) | exact HB.out)) hb); clear HO_3; clear BK1227; clear BK1234; clear HB; have HO_3 := n0_; have BK1227 := n1_; have BK1234 := n2_; have HB := n3_; clear n0_ n1_ n2_ n3_; (try clear hb); (try clear hb2); (try clear hk); (try clear hi); have hcz29_0 : w28.cell? ⟨gb1227, 0, none⟩ = some (.int .i64 a0_0) := (blk_cell BK1227.out 0).trans rfl; have hcz29_1 : w28.cell? ⟨gb1227, 1, none⟩ = some (.int .i64 a0_1) := (blk_cell BK1227.out 1).trans rfl; have hcz29_2 : w28.cell? ⟨gb1227, 2, none⟩ = some (.string a0_2) := (blk_cell BK1227.out 2).trans rfl; have hcz29_3 : w28.cell? ⟨gb1227, 3, none⟩ = some (.slice A0_3 l0_3.length c0_3) := (blk_cell BK1227.out 3).trans rfl; have hcz29_4 : w28.cell? ⟨gb1227, 4, none⟩ = some (.slice (some ad1233) l0_4.length c0_4) := (blk_cell BK1227.out 4).trans rfl; have hfz29_0 := blk_frozen BK1227.out 0; have hfz29_1 := blk_frozen BK1227.out 1; have hfz29_2 := blk_frozen BK1227.out 2; have hfz29_3 := blk_frozen BK1227.out 3; have hfz29_4 := blk_frozen BK1227.out 4))
                    (try simp only [Act.put, List.setIfInBounds_toArray, List.set_cons_zero, List.set_cons_succ])
                    try clear hx1233_0; try clear hx1233_1; try clear hx1233_2; try clear hx1233_3; try clear hx1233_4
                    have H := HC24.out
                    clear HC24
                    by_cases c30 : a0_0 = 5
                    · rw [if_pos c30] at H
                      have c30b0 : (a0_0 == 5) = true := beq_iff_eq.mpr c30
                      have c30b1 : (a0_0 != 5) = false := bne_eq_false_iff_eq.mpr c30
                      clear c30
                      (first | rw [c30b0] | rw [c30b1] | (simp only [i64_w, i32_w]; rw [c30b0]) | skip)
                      by_cases c31 : x30_1 < (l0_3.length : Int)
                      · rw [if_pos c31] at H
                        have c31b0 : decide (x30_1 < (l0_3.length : Int)) = true := decide_eq_true c31
                        clear c31
                        replace H := Option.bind_eq_some_iff.mp H
                        obtain ⟨t1237, A320, H⟩ := H
                        replace H : (if t1237.size + 1 ≤ 9223372036854775807 then (if (t1237 ++ (⟨#[58]⟩ : ByteArray)).size + t1235.size ≤ 9223372036854775807 then (if x3_1.length < 8796093022208 then (impl_braced.l0 k1 (x3_1 ++ [(t1237 ++ (⟨#[58]⟩ : ByteArray)) ++ t1235]) l0_4 (l0_4.length : Int) (wrap64 (x30_1 + 1)) a0_0 a0_1 a0_2 l0_3 l0_4) else (none)) else (none)) else (none)) = some r := H
                        have A32 := Aside0.mk A320
                        clear A320
                        by_cases c33 : t1237.size + 1 ≤ 9223372036854775807
                        · rw [if_pos c33] at H
                          have c33b0 := eq_true c33
                          have c33b1 : decide (t1237.size + 1 ≤ 9223372036854775807) = true := decide_eq_true c33
                          try have c33b2 : (9223372036854775807 < t1237.size + 1) = False := eq_false (Nat.not_lt.2 c33)
                          by_cases c34 : (t1237 ++ (⟨#[58]⟩ : ByteArray)).size + t1235.size ≤ 9223372036854775807
                          · rw [if_pos c34] at H
                            have c34b0 := eq_true c34
                            have c34b1 : decide ((t1237 ++ (⟨#[58]⟩ : ByteArray)).size + t1235.size ≤ 9223372036854775807) = true := decide_eq_true c34
                            try have c34b2 : (9223372036854775807 < (t1237 ++ (⟨#[58]⟩ : ByteArray)).size + t1235.size) = False := eq_false (Nat.not_lt.2 c34)
                            try have c34b3 : (9223372036854775807 < t1237.size + 1 + t1235.size) = False := eq_false (by have h_ := c34; have l0_ : (⟨#[58]⟩ : ByteArray).size = 1 := rfl; simp only [ByteArray.size_append'] at h_; omega)
                            by_cases c35 : x3_1.length < 8796093022208
                            · rw [if_pos c35] at H
                              have LMc35 := Aside0.mk c35
                              clear c35
                              obtain ⟨y1238, hy1238⟩ : ∃ y_ : List ByteArray, y_ = (x3_1 ++ [(t1237 ++ (⟨#[58]⟩ : ByteArray)) ++ t1235]) := ⟨_, rfl⟩
                              replace H : (impl_braced.l0 k1 y1238 l0_4 (l0_4.length : Int) (wrap64 (x30_1 + 1)) a0_0 a0_1 a0_2 l0_3 l0_4) = some r := by first | (rw [hy1238]; with_reducible exact H) | (have H2_ := (Option.bind_some _ _).symm.trans H; rw [hy1238]; with_reducible exact H2_) | (have H2_ := (Option.bind_some _ _).symm.trans H; with_reducible exact H2_) | with_reducible exact H | (rw [hy1238]; exact H) | exact H
                              have Ny1238 := Aside0.mk hy1238
                              clear hy1238
                              have H' := Aside0.mk H
                              clear H
                              have hnb36 := NB1227_1234.out
                              have hnc36 := NB1234_1227.out
                              have hcz37_0 : w28.cell? ⟨gb1227, 0, none⟩ = some (.int .i64 a0_0) := (blk_cell BK1227.out 0).trans rfl
                              have hcz37_1 : w28.cell? ⟨gb1227, 1, none⟩ = some (.int .i64 a0_1) := (blk_cell BK1227.out 1).trans rfl
                              have hcz37_2 : w28.cell? ⟨gb1227, 2, none⟩ = some (.string a0_2) := (blk_cell BK1227.out 2).trans rfl
                              have hcz37_3 : w28.cell? ⟨gb1227, 3, none⟩ = some (.slice A0_3 l0_3.length c0_3) := (blk_cell BK1227.out 3).trans rfl
                              have hcz37_4 : w28.cell? ⟨gb1227, 4, none⟩ = some (.slice (some ad1233) l0_4.length c0_4) := (blk_cell BK1227.out 4).trans rfl
                              have hfz37_0 := blk_frozen BK1227.out 0
                              have hfz37_1 := blk_frozen BK1227.out 1
                              have hfz37_2 := blk_frozen BK1227.out 2
                              have hfz37_3 := blk_frozen BK1227.out 3
                              have hfz37_4 := blk_frozen BK1227.out 4
                              have p1236 : 0 ≤ (x30_1 : Int) := of_decide_eq_true (by first | (with_reducible assumption) | assumption)
                              have q1236 : x30_1 < (l0_3.length : Int) := of_decide_eq_true (by first | (with_reducible assumption) | assumption)
                              obtain ⟨ad1236, e1236, hx1236_0⟩ := Kd.at_string HR0_3.out x30_1 p1236 q1236
                              cases e1236
                              replace hx1236_0 := (HB.out.cell (World.block_lt_of_cell? w _ hx1236_0)).trans hx1236_0
                              replace p1236 := eq_true p1236
                              replace q1236 := eq_true q1236
                              go_wp2_with (first | ((with_reducible refine gate_callee (f := 141) rfl ?_); refine goesL_ (some 45) rfl rfl Try.func141 (by kernel_rfl) rfl #[.string (rdOf ByteArray.empty l0_3 x30_1)] rfl (by (try simp only [List.map_toArray, List.map_cons, List.map_nil]); first | done | rfl | (simp only [List.length_drop, List.length_take]; rfl)) ?_; (with_reducible refine (impl_Quote.calls k1 (rdOf ByteArray.empty l0_3 x30_1) t1237 _ A32.out).mono ?_); rintro e w38 ⟨rfl, hb⟩; refine ⟨_, rfl, ?_⟩; have n0_ := Aside0.mk (Kd.R_below (by (with_reducible repeat (first | apply Kd.R_alloc | apply Kd.R_drewN | apply Kd.R_drew)); exact HO_3.out) hb); have n1_ := Aside0.mk (blk_below (g := gb1227) (o := .cells #[.int .i64 a0_0, .int .i64 a0_1, .string a0_2, .slice (some ad1236) l0_3.length c0_3, .slice (some ad1233) l0_4.length c0_4] 25 (0, 0)) (by (with_reducible repeat (first | refine blk_drewN ?_ _ | refine blk_drew ?_ | refine blk_alloc ?_ _)); exact BK1227.out) hb); have n2_ := Aside0.mk (blk_below (g := gb1234) (o := .cells #[.int .i64 ((rd_T25 l0_4 x30_1).f0), .int .i64 ((rd_T25 l0_4 x30_1).f1), .string ((rd_T25 l0_4 x30_1).f2), .slice A1233_3 ((rd_T25 l0_4 x30_1).f3).length c1233_3, .slice A1233_4 ((rd_T25 l0_4 x30_1).f4).length c1233_4] 25 (0, 0)) (by (with_reducible repeat (first | refine blk_drewN ?_ _ | refine blk_drew ?_ | refine blk_alloc ?_ _)); exact BK1234.out) hb); have n3_ := Aside0.mk (below_step (by repeat (first | (with_reducible first | exact HB.out | apply below_alloc | apply pw_below_drewN | apply below_drew1 | refine below_set ?_ GE1227.out | refine below_set ?_ GE1234.out) | exact HB.out)) hb); clear HO_3; clear BK1227; clear BK1234; clear HB; have HO_3 := n0_; have BK1227 := n1_; have BK1234 := n2_; have HB := n3_; clear n0_ n1_ n2_ n3_; (try clear hb); (try clear hb2); (try clear hk); (try clear hi)) | ((with_reducible refine gate_builtin (b := .append) (xs := #[.tmp 49, .tmp 51]) rfl ?_); at_builtin; refine Kd.R_append Kd.string (w0 := w) w.heap.size rfl (.tmp 49) (.tmp 51) 22 9 (.string ⟨#[]⟩) 16 rfl Try.underlying22 info9 rfl (by decide) (by omega) u3 x3_1 ((t1237 ++ (⟨#[58]⟩ : ByteArray)) ++ t1235) [.string ((t1237 ++ (⟨#[58]⟩ : ByteArray)) ++ t1235)] (fun _ => True) (fun _ => False) rfl rfl ?aP (fun _ hk => hk.elim) ?aF ?aO ?aB ?aS ?aL ?_; (case aP => exact rfl); (case aB => exact (by repeat (first | (with_reducible first | exact HB.out | apply below_alloc | apply pw_below_drewN | apply below_drew1 | refine below_set ?_ GE1227.out | refine below_set ?_ GE1234.out) | exact HB.out))); (case aF => exact (fun _ _ => trivial)); (case aO => exact (by (with_reducible repeat (first | apply Kd.R_alloc | apply Kd.R_drewN | apply Kd.R_drew)); exact HO_3.out)); (case aS => exact (below_size (by repeat (first | (with_reducible first | exact HB.out | apply below_alloc | apply pw_below_drewN | apply below_drew1 | refine below_set ?_ GE1227.out | refine below_set ?_ GE1234.out) | exact HB.out)))); (case aL => have := LMc35.out; omega); intro v1239 w39 ho hb hg hat; rw [← Ny1238.out] at ho; have n0_ := Aside0.mk (blk_grown (g := gb1227) (o := .cells #[.int .i64 a0_0, .int .i64 a0_1, .string a0_2, .slice (some ad1236) l0_3.length c0_3, .slice (some ad1233) l0_4.length c0_4] 25 (0, 0)) (by (with_reducible repeat (first | refine blk_drewN ?_ _ | refine blk_drew ?_ | refine blk_alloc ?_ _)); exact BK1227.out) hg (Kd.R_ne HO_3.out BK1227.out (by decide))); have n1_ := Aside0.mk (blk_grown (g := gb1234) (o := .cells #[.int .i64 ((rd_T25 l0_4 x30_1).f0), .int .i64 ((rd_T25 l0_4 x30_1).f1), .string ((rd_T25 l0_4 x30_1).f2), .slice A1233_3 ((rd_T25 l0_4 x30_1).f3).length c1233_3, .slice A1233_4 ((rd_T25 l0_4 x30_1).f4).length c1233_4] 25 (0, 0)) (by (with_reducible repeat (first | refine blk_drewN ?_ _ | refine blk_drew ?_ | refine blk_alloc ?_ _)); exact BK1234.out) hg (Kd.R_ne HO_3.out BK1234.out (by decide))); have n2_ := Aside0.mk (hb); have n3_ := Aside0.mk (ho); clear BK1227; clear BK1234; clear HB; clear HO_3; have BK1227 := n0_; have BK1234 := n1_; have HB := n2_; have HO1240 := n3_; clear n0_ n1_ n2_ n3_; clear ho hb hg hat))
                              go_roundg k1
                              case measure => have := HK1.out; omega
                              case rel => exact ⟨(y1238), (wrap64 (x30_1 + 1)), (by first | rfl | (simp; done) | (simp [*]; done)), H', ⟨by have := HK1.out; omega⟩, ⟨by (with_reducible repeat (first | apply Kd.R_alloc | apply Kd.R_drewN | apply Kd.R_drew)); exact HO1240.out⟩, ⟨by (with_reducible repeat (first | refine blk_drewN ?_ _ | refine blk_drew ?_ | refine blk_alloc ?_ _)); exact BK1227.out⟩, ⟨by repeat (first | (with_reducible first | exact HB.out | apply below_alloc | apply pw_below_drewN | apply below_drew1 | refine below_set ?_ GE1227.out | refine below_set ?_ GE1234.out) | exact HB.out)⟩⟩
                            · rw [if_neg c35] at H
                              exact absurd H (by simp)
                          · rw [if_neg c34] at H
                            exact absurd H (by simp)
                        · rw [if_neg c33] at H
                          exact absurd H (by simp)
                      · rw [if_neg c31] at H
                        exact absurd H (by simp)
                    · rw [if_neg c30] at H
                      have c30b0 : (a0_0 == 5) = false := beq_eq_false_iff_ne.mpr c30
                      have c30b1 : (a0_0 != 5) = true := bne_iff_ne.mpr c30
                      (first | rw [c30b0] | rw [c30b1] | (simp only [i64_w, i32_w]; rw [c30b0]) | skip)
                      by_cases c40 : x3_1.length < 8796093022208
                      · rw [if_pos c40] at H
                        have LMc40 := Aside0.mk c40
                        clear c40
                        obtain ⟨y1241, hy1241⟩ : ∃ y_ : List ByteArray, y_ = (x3_1 ++ [t1235]) := ⟨_, rfl⟩
                        replace H : (impl_braced.l0 k1 y1241 l0_4 (l0_4.length : Int) (wrap64 (x30_1 + 1)) a0_0 a0_1 a0_2 l0_3 l0_4) = some r := by first | (rw [hy1241]; with_reducible exact H) | (have H2_ := (Option.bind_some _ _).symm.trans H; rw [hy1241]; with_reducible exact H2_) | (have H2_ := (Option.bind_some _ _).symm.trans H; with_reducible exact H2_) | with_reducible exact H | (rw [hy1241]; exact H) | exact H
                        have Ny1241 := Aside0.mk hy1241
                        clear hy1241
                        have H' := Aside0.mk H
                        clear H
                        go_wp2_with (first | ((with_reducible refine gate_builtin (b := .append) (xs := #[.tmp 49, .tmp 51]) rfl ?_); at_builtin; refine Kd.R_append Kd.string (w0 := w) w.heap.size rfl (.tmp 49) (.tmp 51) 22 9 (.string ⟨#[]⟩) 16 rfl Try.underlying22 info9 rfl (by decide) (by omega) u3 x3_1 t1235 [.string t1235] (fun _ => True) (fun _ => False) rfl rfl ?aP (fun _ hk => hk.elim) ?aF ?aO ?aB ?aS ?aL ?_; (case aP => exact rfl); (case aB => exact (by repeat (first | (with_reducible first | exact HB.out | apply below_alloc | apply pw_below_drewN | apply below_drew1 | refine below_set ?_ GE1227.out | refine below_set ?_ GE1234.out) | exact HB.out))); (case aF => exact (fun _ _ => trivial)); (case aO => exact (by (with_reducible repeat (first | apply Kd.R_alloc | apply Kd.R_drewN | apply Kd.R_drew)); exact HO_3.out)); (case aS => exact (below_size (by repeat (first | (with_reducible first | exact HB.out | apply below_alloc | apply pw_below_drewN | apply below_drew1 | refine below_set ?_ GE1227.out | refine below_set ?_ GE1234.out) | exact HB.out)))); (case aL => have := LMc40.out; omega); intro v1242 w41 ho hb hg hat; rw [← Ny1241.out] at ho; have n0_ := Aside0.mk (blk_grown (g := gb1227) (o := .cells #[.int .i64 a0_0, .int .i64 a0_1, .string a0_2, .slice A0_3 l0_3.length c0_3, .slice (some ad1233) l0_4.length c0_4] 25 (0, 0)) (by (with_reducible repeat (first | refine blk_drewN ?_ _ | refine blk_drew ?_ | refine blk_alloc ?_ _)); exact BK1227.out) hg (Kd.R_ne HO_3.out BK1227.out (by decide))); have n1_ := Aside0.mk (blk_grown (g := gb1234) (o := .cells #[.int .i64 ((rd_T25 l0_4 x30_1).f0), .int .i64 ((rd_T25 l0_4 x30_1).f1), .string ((rd_T25 l0_4 x30_1).f2), .slice A1233_3 ((rd_T25 l0_4 x30_1).f3).length c1233_3, .slice A1233_4 ((rd_T25 l0_4 x30_1).f4).length c1233_4] 25 (0, 0)) (by (with_reducible repeat (first | refine blk_drewN ?_ _ | refine blk_drew ?_ | refine blk_alloc ?_ _)); exact BK1234.out) hg (Kd.R_ne HO_3.out BK1234.out (by decide))); have n2_ := Aside0.mk (hb); have n3_ := Aside0.mk (ho); clear BK1227; clear BK1234; clear HB; clear HO_3; have BK1227 := n0_; have BK1234 := n1_; have HB := n2_; have HO1243 := n3_; clear n0_ n1_ n2_ n3_; clear ho hb hg hat))
                        go_roundg k1
                        case measure => have := HK1.out; omega
                        case rel => exact ⟨(y1241), (wrap64 (x30_1 + 1)), (by first | rfl | (simp; done) | (simp [*]; done)), H', ⟨by have := HK1.out; omega⟩, ⟨by (with_reducible repeat (first | apply Kd.R_alloc | apply Kd.R_drewN | apply Kd.R_drew)); exact HO1243.out⟩, ⟨by (with_reducible repeat (first | refine blk_drewN ?_ _ | refine blk_drew ?_ | refine blk_alloc ?_ _)); exact BK1227.out⟩, ⟨by repeat (first | (with_reducible first | exact HB.out | apply below_alloc | apply pw_below_drewN | apply below_drew1 | refine below_set ?_ GE1227.out | refine below_set ?_ GE1234.out) | exact HB.out)⟩⟩
                      · rw [if_neg c40] at H
                        exact absurd H (by simp)
                  · rw [if_neg c22] at H
                    exact absurd H (by simp)
                · rw [if_neg c21] at H
                  exact absurd H (by simp)
              · rw [if_neg c20] at H
                have c20b0 : decide (x30_1 < (l0_4.length : Int)) = false := decide_eq_false c20
                clear c20
                by_cases c42 : a0_0 = 5
                · rw [if_pos c42] at H
                  have c42b0 : (a0_0 == 5) = true := beq_iff_eq.mpr c42
                  have c42b1 : (a0_0 != 5) = false := bne_eq_false_iff_eq.mpr c42
                  clear c42
                  replace H := Option.bind_eq_some_iff.mp H
                  obtain ⟨t1244, A430, H⟩ := H
                  replace H : (if 1 + t1244.size ≤ 9223372036854775807 then (if ((⟨#[123]⟩ : ByteArray) ++ t1244).size + 1 ≤ 9223372036854775807 then (some (((⟨#[123]⟩ : ByteArray) ++ t1244) ++ (⟨#[125]⟩ : ByteArray))) else (none)) else (none)) = some r := H
                  have A43 := Aside0.mk A430
                  clear A430
                  by_cases c44 : 1 + t1244.size ≤ 9223372036854775807
                  · rw [if_pos c44] at H
                    have c44b0 := eq_true c44
                    have c44b1 : decide (1 + t1244.size ≤ 9223372036854775807) = true := decide_eq_true c44
                    try have c44b2 : (9223372036854775807 < 1 + t1244.size) = False := eq_false (Nat.not_lt.2 c44)
                    by_cases c45 : ((⟨#[123]⟩ : ByteArray) ++ t1244).size + 1 ≤ 9223372036854775807
                    · rw [if_pos c45] at H
                      have c45b0 := eq_true c45
                      have c45b1 : decide (((⟨#[123]⟩ : ByteArray) ++ t1244).size + 1 ≤ 9223372036854775807) = true := decide_eq_true c45
                      try have c45b2 : (9223372036854775807 < ((⟨#[123]⟩ : ByteArray) ++ t1244).size + 1) = False := eq_false (Nat.not_lt.2 c45)
                      try have c45b3 : (9223372036854775807 < 1 + t1244.size + 1) = False := eq_false (by have h_ := c45; have l0_ : (⟨#[123]⟩ : ByteArray).size = 1 := rfl; simp only [ByteArray.size_append'] at h_; omega)
                      obtain rfl := Option.some.inj H
                      have hcz46_0 : wr.cell? ⟨gb1227, 0, none⟩ = some (.int .i64 a0_0) := (blk_cell BK1227.out 0).trans rfl
                      have hcz46_1 : wr.cell? ⟨gb1227, 1, none⟩ = some (.int .i64 a0_1) := (blk_cell BK1227.out 1).trans rfl
                      have hcz46_2 : wr.cell? ⟨gb1227, 2, none⟩ = some (.string a0_2) := (blk_cell BK1227.out 2).trans rfl
                      have hcz46_3 : wr.cell? ⟨gb1227, 3, none⟩ = some (.slice A0_3 l0_3.length c0_3) := (blk_cell BK1227.out 3).trans rfl
                      have hcz46_4 : wr.cell? ⟨gb1227, 4, none⟩ = some (.slice A0_4 l0_4.length c0_4) := (blk_cell BK1227.out 4).trans rfl
                      have hfz46_0 := blk_frozen BK1227.out 0
                      have hfz46_1 := blk_frozen BK1227.out 1
                      have hfz46_2 := blk_frozen BK1227.out 2
                      have hfz46_3 := blk_frozen BK1227.out 3
                      have hfz46_4 := blk_frozen BK1227.out 4
                      obtain ⟨Ao47, co47, eo47⟩ := Kd.R_slice HO_3.out
                      subst eo47
                      go_wp2_with (first | ((with_reducible refine gate_callee (f := 142) rfl ?_); refine goesL_ (some 58) rfl rfl Try.func142 (by kernel_rfl) rfl #[.slice Ao47 x3_1.length co47, .string (⟨#[44]⟩ : ByteArray)] rfl (by (try simp only [List.map_toArray, List.map_cons, List.map_nil]); first | done | rfl | (simp only [List.length_drop, List.length_take]; rfl)) ?_; (with_reducible refine (strings_Join.calls _ _ x3_1 (⟨#[44]⟩ : ByteArray) t1244 _ ?side1 ?side2 A43.out).mono ?_); (case side1 => repeat (first | exact (Kd.R_reads' HO_3.out).2.2 | (with_reducible refine Kd.C_alloc ?_ _) | (with_reducible refine Kd.C_drewN ?_ _) | (with_reducible refine Kd.C_drew ?_))); (case side2 => exact (Kd.R_reads' HO_3.out).2.1); rintro e w48 ⟨rfl, hb⟩; refine ⟨_, rfl, ?_⟩; have n0_ := Aside0.mk (Kd.R_below (by (with_reducible repeat (first | apply Kd.R_alloc | apply Kd.R_drewN | apply Kd.R_drew)); exact HO_3.out) hb); have n1_ := Aside0.mk (blk_below (g := gb1227) (o := .cells #[.int .i64 a0_0, .int .i64 a0_1, .string a0_2, .slice A0_3 l0_3.length c0_3, .slice A0_4 l0_4.length c0_4] 25 (0, 0)) (by (with_reducible repeat (first | refine blk_drewN ?_ _ | refine blk_drew ?_ | refine blk_alloc ?_ _)); exact BK1227.out) hb); have n2_ := Aside0.mk (below_step (by repeat (first | (with_reducible first | exact HB.out | apply below_alloc | apply pw_below_drewN | apply below_drew1 | refine below_set ?_ GE1227.out) | exact HB.out)) hb); clear HO_3; clear BK1227; clear HB; have HO_3 := n0_; have BK1227 := n1_; have HB := n2_; clear n0_ n1_ n2_; (try clear hb); (try clear hb2); (try clear hk); (try clear hi)))
                      go_ret
                      exact ⟨by first | rfl | (simp [errW_none, errW_some] <;> rfl) | (simp [*, errW_none, errW_some] <;> rfl), by repeat (first | (with_reducible first | exact HB.out | apply below_alloc | apply pw_below_drewN | apply below_drew1 | refine below_set ?_ GE1227.out) | exact HB.out)⟩
                    · rw [if_neg c45] at H
                      exact absurd H (by simp)
                  · rw [if_neg c44] at H
                    exact absurd H (by simp)
                · rw [if_neg c42] at H
                  have c42b0 : (a0_0 == 5) = false := beq_eq_false_iff_ne.mpr c42
                  have c42b1 : (a0_0 != 5) = true := bne_iff_ne.mpr c42
                  replace H := Option.bind_eq_some_iff.mp H
                  obtain ⟨t1245, A490, H⟩ := H
                  replace H : (if 1 + t1245.size ≤ 9223372036854775807 then (if ((⟨#[91]⟩ : ByteArray) ++ t1245).size + 1 ≤ 9223372036854775807 then (some (((⟨#[91]⟩ : ByteArray) ++ t1245) ++ (⟨#[93]⟩ : ByteArray))) else (none)) else (none)) = some r := H
                  have A49 := Aside0.mk A490
                  clear A490
                  by_cases c50 : 1 + t1245.size ≤ 9223372036854775807
                  · rw [if_pos c50] at H
                    have c50b0 := eq_true c50
                    have c50b1 : decide (1 + t1245.size ≤ 9223372036854775807) = true := decide_eq_true c50
                    try have c50b2 : (9223372036854775807 < 1 + t1245.size) = False := eq_false (Nat.not_lt.2 c50)
                    by_cases c51 : ((⟨#[91]⟩ : ByteArray) ++ t1245).size + 1 ≤ 9223372036854775807
                    · rw [if_pos c51] at H
                      have c51b0 := eq_true c51
                      have c51b1 : decide (((⟨#[91]⟩ : ByteArray) ++ t1245).size + 1 ≤ 9223372036854775807) = true := decide_eq_true c51
                      try have c51b2 : (9223372036854775807 < ((⟨#[91]⟩ : ByteArray) ++ t1245).size + 1) = False := eq_false (Nat.not_lt.2 c51)
                      try have c51b3 : (9223372036854775807 < 1 + t1245.size + 1) = False := eq_false (by have h_ := c51; have l0_ : (⟨#[91]⟩ : ByteArray).size = 1 := rfl; simp only [ByteArray.size_append'] at h_; omega)
                      obtain rfl := Option.some.inj H
                      have hcz52_0 : wr.cell? ⟨gb1227, 0, none⟩ = some (.int .i64 a0_0) := (blk_cell BK1227.out 0).trans rfl
                      have hcz52_1 : wr.cell? ⟨gb1227, 1, none⟩ = some (.int .i64 a0_1) := (blk_cell BK1227.out 1).trans rfl
                      have hcz52_2 : wr.cell? ⟨gb1227, 2, none⟩ = some (.string a0_2) := (blk_cell BK1227.out 2).trans rfl
                      have hcz52_3 : wr.cell? ⟨gb1227, 3, none⟩ = some (.slice A0_3 l0_3.length c0_3) := (blk_cell BK1227.out 3).trans rfl
                      have hcz52_4 : wr.cell? ⟨gb1227, 4, none⟩ = some (.slice A0_4 l0_4.length c0_4) := (blk_cell BK1227.out 4).trans rfl
                      have hfz52_0 := blk_frozen BK1227.out 0
                      have hfz52_1 := blk_frozen BK1227.out 1
                      have hfz52_2 := blk_frozen BK1227.out 2
                      have hfz52_3 := blk_frozen BK1227.out 3
                      have hfz52_4 := blk_frozen BK1227.out 4
                      obtain ⟨Ao53, co53, eo53⟩ := Kd.R_slice HO_3.out
                      subst eo53
                      go_wp2_with (first | ((with_reducible refine gate_callee (f := 142) rfl ?_); refine goesL_ (some 62) rfl rfl Try.func142 (by kernel_rfl) rfl #[.slice Ao53 x3_1.length co53, .string (⟨#[44]⟩ : ByteArray)] rfl (by (try simp only [List.map_toArray, List.map_cons, List.map_nil]); first | done | rfl | (simp only [List.length_drop, List.length_take]; rfl)) ?_; (with_reducible refine (strings_Join.calls _ _ x3_1 (⟨#[44]⟩ : ByteArray) t1245 _ ?side1 ?side2 A49.out).mono ?_); (case side1 => repeat (first | exact (Kd.R_reads' HO_3.out).2.2 | (with_reducible refine Kd.C_alloc ?_ _) | (with_reducible refine Kd.C_drewN ?_ _) | (with_reducible refine Kd.C_drew ?_))); (case side2 => exact (Kd.R_reads' HO_3.out).2.1); rintro e w54 ⟨rfl, hb⟩; refine ⟨_, rfl, ?_⟩; have n0_ := Aside0.mk (Kd.R_below (by (with_reducible repeat (first | apply Kd.R_alloc | apply Kd.R_drewN | apply Kd.R_drew)); exact HO_3.out) hb); have n1_ := Aside0.mk (blk_below (g := gb1227) (o := .cells #[.int .i64 a0_0, .int .i64 a0_1, .string a0_2, .slice A0_3 l0_3.length c0_3, .slice A0_4 l0_4.length c0_4] 25 (0, 0)) (by (with_reducible repeat (first | refine blk_drewN ?_ _ | refine blk_drew ?_ | refine blk_alloc ?_ _)); exact BK1227.out) hb); have n2_ := Aside0.mk (below_step (by repeat (first | (with_reducible first | exact HB.out | apply below_alloc | apply pw_below_drewN | apply below_drew1 | refine below_set ?_ GE1227.out) | exact HB.out)) hb); clear HO_3; clear BK1227; clear HB; have HO_3 := n0_; have BK1227 := n1_; have HB := n2_; clear n0_ n1_ n2_; (try clear hb); (try clear hb2); (try clear hk); (try clear hi)))
                      go_ret
                      exact ⟨by first | rfl | (simp [errW_none, errW_some] <;> rfl) | (simp [*, errW_none, errW_some] <;> rfl), by repeat (first | (with_reducible first | exact HB.out | apply below_alloc | apply pw_below_drewN | apply below_drew1 | refine below_set ?_ GE1227.out) | exact HB.out)⟩
                    · rw [if_neg c51] at H
                      exact absurd H (by simp)
                  · rw [if_neg c50] at H
                    exact absurd H (by simp)

end Go.Proofs.Ytnbnpgjgibcmpaa.P
