-- Made by drive.py (a program of this session) over the kit's print; not written line by line by a hand.
import Derived.Test.YtnbnpgjgibcmpaaP0
import Derived.Test.YtnbnpgjgibcmpaaP_spec_Quote
import Derived.Test.YtnbnpgjgibcmpaaP_spec_l3Right
import Derived.Test.YtnbnpgjgibcmpaaP_spec_l5Letter
import Derived.Test.YtnbnpgjgibcmpaaShelf
namespace Go.Proofs.Ytnbnpgjgibcmpaa.P
open Go.RowKit Go.Proofs.YtnbnpgjgibcmpaaW.PrintWords Go.Proofs.YtnbnpgjgibcmpaaW.PrintLast Go.Proofs.YtnbnpgjgibcmpaaW.PrintMore
attribute [local go_sem] max2_int min2_int max_two min_two max_three min_three max_four min_four   -- for this text's walks alone
set_option linter.unusedVariables false
set_option linter.unusedSimpArgs false

/-! ### spec_l5Block: function 119 -/
def spec_l5Block.f (a0_0 : Int) (a0_1 : Int) (a0_2 : ByteArray) (l0_3 : List ByteArray) (l0_4 : List (S25)) : Option (Bool) := if a0_0 = 4 then (some (decide ((l0_4.length : Int) > 0))) else (if a0_0 = 5 then (some (decide ((l0_4.length : Int) > 0))) else (some false))
set_option maxHeartbeats 8000000 in
set_option maxRecDepth 100000 in
theorem spec_l5Block.calls (a0_0 : Int) (a0_1 : Int) (a0_2 : ByteArray) (A0_3 : Option Addr) (c0_3 : Nat) (l0_3 : List ByteArray) (A0_4 : Option Addr) (c0_4 : Nat) (l0_4 : List (S25)) (r : Bool) (w : World) (hr0_3 : Kd.C Kd.string w A0_3 l0_3.length l0_3) (hc0_3 : l0_3.length ≤ c0_3) (hr0_4 : Kd.C k25 w A0_4 l0_4.length l0_4) (hc0_4 : l0_4.length ≤ c0_4) (h : spec_l5Block.f a0_0 a0_1 a0_2 l0_3 l0_4 = some r) :
    Calls Try.prog 119 #[.agg #[.int .i64 a0_0, .int .i64 a0_1, .string a0_2, .slice A0_3 l0_3.length c0_3, .slice A0_4 l0_4.length c0_4]] w fun e w' => e = .returned (.bool r) ∧ Below w.heap.size w w' := by
  have hu25 := Try.underlying25
  have HR0_3 := Aside0.mk hr0_3
  have HC0_3 := Aside0.mk hc0_3
  clear hr0_3 hc0_3
  have HR0_4 := Aside0.mk hr0_4
  have HC0_4 := Aside0.mk hc0_4
  clear hr0_4 hc0_4
  have HB := Aside0.mk (Below.refl w.heap.size w)
  have H : (if a0_0 = 4 then (some (decide ((l0_4.length : Int) > 0))) else (if a0_0 = 5 then (some (decide ((l0_4.length : Int) > 0))) else (some false))) = some r := h
  clear h
  by_cases c2 : a0_0 = 4
  · rw [if_pos c2] at H
    have c2b0 : (a0_0 == 4) = true := beq_iff_eq.mpr c2
    have c2b1 : (a0_0 != 4) = false := bne_eq_false_iff_eq.mpr c2
    clear c2
    obtain rfl := Option.some.inj H
    go_enter Try.func119, Try.ntmps119
    go_wp2_with (first | ((with_reducible refine gate_dst (N := 1) rfl ?_); (try (refine gate_guard (by rfl) ?_; dsimp only)); refine box_event ?hg (N := 1) ?hd (cs := #[.int .i64 a0_0, .int .i64 a0_1, .string a0_2, .slice A0_3 l0_3.length c0_3, .slice A0_4 l0_4.length c0_4]) (t := 25) ?hr ?_; (case hd => rfl); (case hg => rfl); (case hr => first | (go_simp; done) | (go_simp; rfl)); intro gb1377 hg w3 hbox hb; have n0_ := Aside0.mk (below_step (by repeat (first | (with_reducible first | exact HB.out | apply below_alloc | apply pw_below_drewN | apply below_drew1) | exact HB.out)) hb); have n1_ := Aside0.mk (hbox); have n2_ := Aside0.mk ((by rw [hg]; exact (below_size (by repeat (first | (with_reducible first | exact HB.out | apply below_alloc | apply pw_below_drewN | apply below_drew1) | exact HB.out))) : w.heap.size ≤ gb1377)); have n3_ := Aside0.mk ((by rw [hg]; exact (below_size (by repeat (first | (with_reducible first | exact HB.out | apply below_alloc | apply pw_below_drewN | apply below_drew1) | exact HB.out))) : w.heap.size ≤ gb1377)); clear HB; have HB := n0_; have BK1377 := n1_; have GW1377 := n2_; have GE1377 := n3_; clear n0_ n1_ n2_ n3_; clear hb hbox hg; have hcz4_0 : w3.cell? ⟨gb1377, 0, none⟩ = some (.int .i64 a0_0) := (blk_cell BK1377.out 0).trans rfl; have hcz4_1 : w3.cell? ⟨gb1377, 1, none⟩ = some (.int .i64 a0_1) := (blk_cell BK1377.out 1).trans rfl; have hcz4_2 : w3.cell? ⟨gb1377, 2, none⟩ = some (.string a0_2) := (blk_cell BK1377.out 2).trans rfl; have hcz4_3 : w3.cell? ⟨gb1377, 3, none⟩ = some (.slice A0_3 l0_3.length c0_3) := (blk_cell BK1377.out 3).trans rfl; have hcz4_4 : w3.cell? ⟨gb1377, 4, none⟩ = some (.slice A0_4 l0_4.length c0_4) := (blk_cell BK1377.out 4).trans rfl; have hfz4_0 := blk_frozen BK1377.out 0; have hfz4_1 := blk_frozen BK1377.out 1; have hfz4_2 := blk_frozen BK1377.out 2; have hfz4_3 := blk_frozen BK1377.out 3; have hfz4_4 := blk_frozen BK1377.out 4))
    go_ret
    exact ⟨by first | rfl | (simp [errW_none, errW_some] <;> rfl) | (simp [*, errW_none, errW_some] <;> rfl), by repeat (first | (with_reducible first | exact HB.out | apply below_alloc | apply pw_below_drewN | apply below_drew1 | refine below_set ?_ GE1377.out) | exact HB.out)⟩
  · rw [if_neg c2] at H
    have c2b0 : (a0_0 == 4) = false := beq_eq_false_iff_ne.mpr c2
    have c2b1 : (a0_0 != 4) = true := bne_iff_ne.mpr c2
    by_cases c5 : a0_0 = 5
    · rw [if_pos c5] at H
      have c5b0 : (a0_0 == 5) = true := beq_iff_eq.mpr c5
      have c5b1 : (a0_0 != 5) = false := bne_eq_false_iff_eq.mpr c5
      clear c5
      obtain rfl := Option.some.inj H
      go_enter Try.func119, Try.ntmps119
      go_wp2_with (first | ((with_reducible refine gate_dst (N := 1) rfl ?_); (try (refine gate_guard (by rfl) ?_; dsimp only)); refine box_event ?hg (N := 1) ?hd (cs := #[.int .i64 a0_0, .int .i64 a0_1, .string a0_2, .slice A0_3 l0_3.length c0_3, .slice A0_4 l0_4.length c0_4]) (t := 25) ?hr ?_; (case hd => rfl); (case hg => rfl); (case hr => first | (go_simp; done) | (go_simp; rfl)); intro gb1377 hg w6 hbox hb; have n0_ := Aside0.mk (below_step (by repeat (first | (with_reducible first | exact HB.out | apply below_alloc | apply pw_below_drewN | apply below_drew1) | exact HB.out)) hb); have n1_ := Aside0.mk (hbox); have n2_ := Aside0.mk ((by rw [hg]; exact (below_size (by repeat (first | (with_reducible first | exact HB.out | apply below_alloc | apply pw_below_drewN | apply below_drew1) | exact HB.out))) : w.heap.size ≤ gb1377)); have n3_ := Aside0.mk ((by rw [hg]; exact (below_size (by repeat (first | (with_reducible first | exact HB.out | apply below_alloc | apply pw_below_drewN | apply below_drew1) | exact HB.out))) : w.heap.size ≤ gb1377)); clear HB; have HB := n0_; have BK1377 := n1_; have GW1377 := n2_; have GE1377 := n3_; clear n0_ n1_ n2_ n3_; clear hb hbox hg; have hcz7_0 : w6.cell? ⟨gb1377, 0, none⟩ = some (.int .i64 a0_0) := (blk_cell BK1377.out 0).trans rfl; have hcz7_1 : w6.cell? ⟨gb1377, 1, none⟩ = some (.int .i64 a0_1) := (blk_cell BK1377.out 1).trans rfl; have hcz7_2 : w6.cell? ⟨gb1377, 2, none⟩ = some (.string a0_2) := (blk_cell BK1377.out 2).trans rfl; have hcz7_3 : w6.cell? ⟨gb1377, 3, none⟩ = some (.slice A0_3 l0_3.length c0_3) := (blk_cell BK1377.out 3).trans rfl; have hcz7_4 : w6.cell? ⟨gb1377, 4, none⟩ = some (.slice A0_4 l0_4.length c0_4) := (blk_cell BK1377.out 4).trans rfl; have hfz7_0 := blk_frozen BK1377.out 0; have hfz7_1 := blk_frozen BK1377.out 1; have hfz7_2 := blk_frozen BK1377.out 2; have hfz7_3 := blk_frozen BK1377.out 3; have hfz7_4 := blk_frozen BK1377.out 4))
      go_ret
      exact ⟨by first | rfl | (simp [errW_none, errW_some] <;> rfl) | (simp [*, errW_none, errW_some] <;> rfl), by repeat (first | (with_reducible first | exact HB.out | apply below_alloc | apply pw_below_drewN | apply below_drew1 | refine below_set ?_ GE1377.out) | exact HB.out)⟩
    · rw [if_neg c5] at H
      have c5b0 : (a0_0 == 5) = false := beq_eq_false_iff_ne.mpr c5
      have c5b1 : (a0_0 != 5) = true := bne_iff_ne.mpr c5
      obtain rfl := Option.some.inj H
      go_enter Try.func119, Try.ntmps119
      go_wp2_with (first | ((with_reducible refine gate_dst (N := 1) rfl ?_); (try (refine gate_guard (by rfl) ?_; dsimp only)); refine box_event ?hg (N := 1) ?hd (cs := #[.int .i64 a0_0, .int .i64 a0_1, .string a0_2, .slice A0_3 l0_3.length c0_3, .slice A0_4 l0_4.length c0_4]) (t := 25) ?hr ?_; (case hd => rfl); (case hg => rfl); (case hr => first | (go_simp; done) | (go_simp; rfl)); intro gb1377 hg w8 hbox hb; have n0_ := Aside0.mk (below_step (by repeat (first | (with_reducible first | exact HB.out | apply below_alloc | apply pw_below_drewN | apply below_drew1) | exact HB.out)) hb); have n1_ := Aside0.mk (hbox); have n2_ := Aside0.mk ((by rw [hg]; exact (below_size (by repeat (first | (with_reducible first | exact HB.out | apply below_alloc | apply pw_below_drewN | apply below_drew1) | exact HB.out))) : w.heap.size ≤ gb1377)); have n3_ := Aside0.mk ((by rw [hg]; exact (below_size (by repeat (first | (with_reducible first | exact HB.out | apply below_alloc | apply pw_below_drewN | apply below_drew1) | exact HB.out))) : w.heap.size ≤ gb1377)); clear HB; have HB := n0_; have BK1377 := n1_; have GW1377 := n2_; have GE1377 := n3_; clear n0_ n1_ n2_ n3_; clear hb hbox hg; have hcz9_0 : w8.cell? ⟨gb1377, 0, none⟩ = some (.int .i64 a0_0) := (blk_cell BK1377.out 0).trans rfl; have hcz9_1 : w8.cell? ⟨gb1377, 1, none⟩ = some (.int .i64 a0_1) := (blk_cell BK1377.out 1).trans rfl; have hcz9_2 : w8.cell? ⟨gb1377, 2, none⟩ = some (.string a0_2) := (blk_cell BK1377.out 2).trans rfl; have hcz9_3 : w8.cell? ⟨gb1377, 3, none⟩ = some (.slice A0_3 l0_3.length c0_3) := (blk_cell BK1377.out 3).trans rfl; have hcz9_4 : w8.cell? ⟨gb1377, 4, none⟩ = some (.slice A0_4 l0_4.length c0_4) := (blk_cell BK1377.out 4).trans rfl; have hfz9_0 := blk_frozen BK1377.out 0; have hfz9_1 := blk_frozen BK1377.out 1; have hfz9_2 := blk_frozen BK1377.out 2; have hfz9_3 := blk_frozen BK1377.out 3; have hfz9_4 := blk_frozen BK1377.out 4))
      go_ret
      exact ⟨by first | rfl | (simp [errW_none, errW_some] <;> rfl) | (simp [*, errW_none, errW_some] <;> rfl), by repeat (first | (with_reducible first | exact HB.out | apply below_alloc | apply pw_below_drewN | apply below_drew1 | refine below_set ?_ GE1377.out) | exact HB.out)⟩

/-! ### spec_l5Write: function 120 -/
mutual
def spec_l5Write.l0 : Nat → ByteArray → ByteArray → Int → Int → Int → ByteArray → List ByteArray → List (S25) → Option (ByteArray)
  | 0, _, _, _, _, _, _, _, _ => none
  | k + 1, x1, x5, x6, x1379000, x1379001, x1379002, x1379003, x1379004 => if x6 < (x1379004.length : Int) then (if x1379000 = 5 then (if 0 ≤ x6 then (if x6 < (x1379003.length : Int) then ((spec_Quote.f k (rdOf ByteArray.empty x1379003 x6)).bind fun t1380 => (if t1380.size + 1 ≤ 9223372036854775807 then ((spec_PlainOk.f k (rdOf ByteArray.empty x1379003 x6)).bind fun t1382 => (if t1382 = true then (if (rdOf ByteArray.empty x1379003 x6).size + 1 ≤ 9223372036854775807 then (spec_l5Write.j1 k x1 x5 x6 ((rdOf ByteArray.empty x1379003 x6) ++ (⟨#[58]⟩ : ByteArray)) x1379000 x1379001 x1379002 x1379003 x1379004) else (none)) else (spec_l5Write.j1 k x1 x5 x6 (t1380 ++ (⟨#[58]⟩ : ByteArray)) x1379000 x1379001 x1379002 x1379003 x1379004))) else (none))) else (none)) else (none)) else (spec_l5Write.j1 k x1 x5 x6 (⟨#[45]⟩ : ByteArray) x1379000 x1379001 x1379002 x1379003 x1379004)) else (some x5)
def spec_l5Write.j1 : Nat → ByteArray → ByteArray → Int → ByteArray → Int → Int → ByteArray → List ByteArray → List (S25) → Option (ByteArray)
  | 0, _, _, _, _, _, _, _, _, _ => none
  | k + 1, x1, x5, x6, x7, x1379000, x1379001, x1379002, x1379003, x1379004 => if x5.size + x1.size ≤ 9223372036854775807 then (if (x5 ++ x1).size + x7.size ≤ 9223372036854775807 then (if 0 ≤ x6 then (if x6 < (x1379004.length : Int) then ((spec_l5Block.f ((rd_T25 x1379004 x6).f0) ((rd_T25 x1379004 x6).f1) ((rd_T25 x1379004 x6).f2) ((rd_T25 x1379004 x6).f3) ((rd_T25 x1379004 x6).f4)).bind fun t1385 => (if t1385 = true then (if ((x5 ++ x1) ++ x7).size + 1 ≤ 9223372036854775807 then (if x1.size + 2 ≤ 9223372036854775807 then ((spec_l5Write.f k ((rd_T25 x1379004 x6).f0) ((rd_T25 x1379004 x6).f1) ((rd_T25 x1379004 x6).f2) ((rd_T25 x1379004 x6).f3) ((rd_T25 x1379004 x6).f4) (x1 ++ (⟨#[32, 32]⟩ : ByteArray))).bind fun t1387 => (if (((x5 ++ x1) ++ x7) ++ (⟨#[10]⟩ : ByteArray)).size + t1387.size ≤ 9223372036854775807 then (spec_l5Write.l0 k x1 ((((x5 ++ x1) ++ x7) ++ (⟨#[10]⟩ : ByteArray)) ++ t1387) (wrap64 (x6 + 1)) x1379000 x1379001 x1379002 x1379003 x1379004) else (none))) else (none)) else (none)) else (if ((x5 ++ x1) ++ x7).size + 1 ≤ 9223372036854775807 then ((spec_Inline.f k ((rd_T25 x1379004 x6).f0) ((rd_T25 x1379004 x6).f1) ((rd_T25 x1379004 x6).f2) ((rd_T25 x1379004 x6).f3) ((rd_T25 x1379004 x6).f4)).bind fun t1389 => (if (((x5 ++ x1) ++ x7) ++ (⟨#[32]⟩ : ByteArray)).size + t1389.size ≤ 9223372036854775807 then (if ((((x5 ++ x1) ++ x7) ++ (⟨#[32]⟩ : ByteArray)) ++ t1389).size + 1 ≤ 9223372036854775807 then (spec_l5Write.l0 k x1 (((((x5 ++ x1) ++ x7) ++ (⟨#[32]⟩ : ByteArray)) ++ t1389) ++ (⟨#[10]⟩ : ByteArray)) (wrap64 (x6 + 1)) x1379000 x1379001 x1379002 x1379003 x1379004) else (none)) else (none))) else (none)))) else (none)) else (none)) else (none)) else (none)
def spec_l5Write.f : Nat → Int → Int → ByteArray → List ByteArray → List (S25) → ByteArray → Option (ByteArray)
  | 0, _, _, _, _, _, _ => none
  | k + 1, a0_0, a0_1, a0_2, l0_3, l0_4, a1 => spec_l5Write.l0 k a1 (⟨#[]⟩ : ByteArray) 0 a0_0 a0_1 a0_2 l0_3 l0_4
end
theorem spec_l5Write.mono_l : ∀ k, (∀ y0 y1 y2 y3 y4 y5, LeO (spec_l5Write.f k y0 y1 y2 y3 y4 y5) (spec_l5Write.f (k + 1) y0 y1 y2 y3 y4 y5)) ∧ (∀ y0 y1 y2 y3 y4 y5 y6 y7, LeO (spec_l5Write.l0 k y0 y1 y2 y3 y4 y5 y6 y7) (spec_l5Write.l0 (k + 1) y0 y1 y2 y3 y4 y5 y6 y7)) ∧ (∀ y0 y1 y2 y3 y4 y5 y6 y7 y8, LeO (spec_l5Write.j1 k y0 y1 y2 y3 y4 y5 y6 y7 y8) (spec_l5Write.j1 (k + 1) y0 y1 y2 y3 y4 y5 y6 y7 y8))
  | 0 => ⟨fun _ _ _ _ _ _ r h => by simp [spec_l5Write.f] at h, fun _ _ _ _ _ _ _ _ r h => by simp [spec_l5Write.l0] at h, fun _ _ _ _ _ _ _ _ _ r h => by simp [spec_l5Write.j1] at h⟩
  | k + 1 => by
    obtain ⟨ih0, ih1, ih2⟩ := spec_l5Write.mono_l k
    refine ⟨?_, ?_, ?_⟩
    · intro y0 y1 y2 y3 y4 y5
      unfold spec_l5Write.f
      repeat' first
      | (with_reducible exact ih0 _ _ _ _ _ _)
      | (with_reducible exact ih1 _ _ _ _ _ _ _ _)
      | (with_reducible exact ih2 _ _ _ _ _ _ _ _ _)
      | (with_reducible exact spec_Inline.mono _ _ _ _ _ _)
      | (with_reducible exact spec_PlainOk.mono _ _)
      | (with_reducible exact spec_Quote.mono _ _)
      | (with_reducible exact LeO.refl _)
      | (with_reducible exact LeO.none _)
      | (with_reducible refine LeO.ite ?_ ?_)
      | (with_reducible refine LeO.bind ?_ (fun _ => ?_))
      | exact ih0 _ _ _ _ _ _
      | exact ih1 _ _ _ _ _ _ _ _
      | exact ih2 _ _ _ _ _ _ _ _ _
      | exact spec_Inline.mono _ _ _ _ _ _
      | exact spec_PlainOk.mono _ _
      | exact spec_Quote.mono _ _
      | exact LeO.none _
      | refine LeO.ite ?_ ?_
      | refine LeO.bind ?_ (fun _ => ?_)
    · intro y0 y1 y2 y3 y4 y5 y6 y7
      unfold spec_l5Write.l0
      repeat' first
      | (with_reducible exact ih0 _ _ _ _ _ _)
      | (with_reducible exact ih1 _ _ _ _ _ _ _ _)
      | (with_reducible exact ih2 _ _ _ _ _ _ _ _ _)
      | (with_reducible exact spec_Inline.mono _ _ _ _ _ _)
      | (with_reducible exact spec_PlainOk.mono _ _)
      | (with_reducible exact spec_Quote.mono _ _)
      | (with_reducible exact LeO.refl _)
      | (with_reducible exact LeO.none _)
      | (with_reducible refine LeO.ite ?_ ?_)
      | (with_reducible refine LeO.bind ?_ (fun _ => ?_))
      | exact ih0 _ _ _ _ _ _
      | exact ih1 _ _ _ _ _ _ _ _
      | exact ih2 _ _ _ _ _ _ _ _ _
      | exact spec_Inline.mono _ _ _ _ _ _
      | exact spec_PlainOk.mono _ _
      | exact spec_Quote.mono _ _
      | exact LeO.none _
      | refine LeO.ite ?_ ?_
      | refine LeO.bind ?_ (fun _ => ?_)
    · intro y0 y1 y2 y3 y4 y5 y6 y7 y8
      unfold spec_l5Write.j1
      repeat' first
      | (with_reducible exact ih0 _ _ _ _ _ _)
      | (with_reducible exact ih1 _ _ _ _ _ _ _ _)
      | (with_reducible exact ih2 _ _ _ _ _ _ _ _ _)
      | (with_reducible exact spec_Inline.mono _ _ _ _ _ _)
      | (with_reducible exact spec_PlainOk.mono _ _)
      | (with_reducible exact spec_Quote.mono _ _)
      | (with_reducible exact LeO.refl _)
      | (with_reducible exact LeO.none _)
      | (with_reducible refine LeO.ite ?_ ?_)
      | (with_reducible refine LeO.bind ?_ (fun _ => ?_))
      | exact ih0 _ _ _ _ _ _
      | exact ih1 _ _ _ _ _ _ _ _
      | exact ih2 _ _ _ _ _ _ _ _ _
      | exact spec_Inline.mono _ _ _ _ _ _
      | exact spec_PlainOk.mono _ _
      | exact spec_Quote.mono _ _
      | exact LeO.none _
      | refine LeO.ite ?_ ?_
      | refine LeO.bind ?_ (fun _ => ?_)
theorem spec_l5Write.mono : ∀ a0 a1 a2 a3 a4 a5 k, LeO (spec_l5Write.f k a0 a1 a2 a3 a4 a5) (spec_l5Write.f (k + 1) a0 a1 a2 a3 a4 a5) := by
  intro a0 a1 a2 a3 a4 a5 k
  obtain ⟨ih0, ih1, ih2⟩ := spec_l5Write.mono_l k
  exact ih0 a0 a1 a2 a3 a4 a5
set_option maxHeartbeats 8000000 in
set_option maxRecDepth 100000 in
theorem spec_l5Write.calls (k : Nat) : ∀ (a0_0 : Int) (a0_1 : Int) (a0_2 : ByteArray) (A0_3 : Option Addr) (c0_3 : Nat) (l0_3 : List ByteArray) (A0_4 : Option Addr) (c0_4 : Nat) (l0_4 : List (S25)) (a1 : ByteArray) (r : ByteArray) (w : World) (hr0_3 : Kd.C Kd.string w A0_3 l0_3.length l0_3) (hc0_3 : l0_3.length ≤ c0_3) (hr0_4 : Kd.C k25 w A0_4 l0_4.length l0_4) (hc0_4 : l0_4.length ≤ c0_4) (h : spec_l5Write.f k a0_0 a0_1 a0_2 l0_3 l0_4 a1 = some r),
    Calls Try.prog 120 #[.agg #[.int .i64 a0_0, .int .i64 a0_1, .string a0_2, .slice A0_3 l0_3.length c0_3, .slice A0_4 l0_4.length c0_4], .string a1] w fun e w' => e = .returned (.string r) ∧ Below w.heap.size w w' := by
  induction k using Nat.strongRecOn with
  | _ k ih =>
  intro a0_0 a0_1 a0_2 A0_3 c0_3 l0_3 A0_4 c0_4 l0_4 a1 r w hr0_3 hc0_3 hr0_4 hc0_4 h
  cases k with
  | zero => exact absurd h (by simp [spec_l5Write.f])
  | succ k =>
  simp only [spec_l5Write.f] at h
  have hu25 := Try.underlying25
  have HR0_3 := Aside0.mk hr0_3
  have HC0_3 := Aside0.mk hc0_3
  clear hr0_3 hc0_3
  have HR0_4 := Aside0.mk hr0_4
  have HC0_4 := Aside0.mk hc0_4
  clear hr0_4 hc0_4
  have HB := Aside0.mk (Below.refl w.heap.size w)
  have H : (spec_l5Write.l0 k a1 (⟨#[]⟩ : ByteArray) 0 a0_0 a0_1 a0_2 l0_3 l0_4) = some r := h
  clear h
  have H' := Aside0.mk H
  clear H
  go_enter Try.func120, Try.ntmps120
  go_wp2_with (first | ((with_reducible refine gate_dst (N := 2) rfl ?_); refine box_event ?hg (N := 2) ?hd (cs := #[.int .i64 a0_0, .int .i64 a0_1, .string a0_2, .slice A0_3 l0_3.length c0_3, .slice A0_4 l0_4.length c0_4]) (t := 25) ?hr ?_; (case hd => rfl); (case hg => rfl); (case hr => first | (go_simp; done) | (go_simp; rfl)); intro gb1378 hg w3 hbox hb; have n0_ := Aside0.mk (below_step (by repeat (first | (with_reducible first | exact HB.out | apply below_alloc | apply pw_below_drewN | apply below_drew1) | exact HB.out)) hb); have n1_ := Aside0.mk (hbox); have n2_ := Aside0.mk ((by rw [hg]; exact (below_size (by repeat (first | (with_reducible first | exact HB.out | apply below_alloc | apply pw_below_drewN | apply below_drew1) | exact HB.out))) : w.heap.size ≤ gb1378)); have n3_ := Aside0.mk ((by rw [hg]; exact (below_size (by repeat (first | (with_reducible first | exact HB.out | apply below_alloc | apply pw_below_drewN | apply below_drew1) | exact HB.out))) : w.heap.size ≤ gb1378)); clear HB; have HB := n0_; have BK1378 := n1_; have GW1378 := n2_; have GE1378 := n3_; clear n0_ n1_ n2_ n3_; clear hb hbox hg))
  go_loopg [5, 6] k (fun kq v5 v6 w' => ∃ (x5_1 : ByteArray) (x6_1 : Int), v5 = .string x5_1 ∧ v6 = .int .i64 x6_1 ∧ Aside0 (spec_l5Write.l0 kq a1 x5_1 x6_1 a0_0 a0_1 a0_2 l0_3 l0_4 = some r) ∧ Aside0 (kq ≤ k) ∧ Aside0 (w'.heap[gb1378]? = some (.cells #[.int .i64 a0_0, .int .i64 a0_1, .string a0_2, (.slice A0_3 l0_3.length c0_3), (.slice A0_4 l0_4.length c0_4)] 25 (0, 0))) ∧ Aside0 (Below w.heap.size w w'))
  case atStart => exact ⟨((⟨#[]⟩ : ByteArray)), (0), (by first | rfl | (simp; done) | (simp [*]; done)), (by first | rfl | (simp; done) | (simp [*]; done)), H', ⟨Nat.le_refl _⟩, ⟨by (with_reducible repeat (first | refine blk_drewN ?_ _ | refine blk_drew ?_ | refine blk_alloc ?_ _)); exact BK1378.out⟩, ⟨by repeat (first | (with_reducible first | exact HB.out | apply below_alloc | apply pw_below_drewN | apply below_drew1 | refine below_set ?_ GE1378.out) | exact HB.out)⟩⟩
  case round =>
    clear H'
    try clear c1
    try clear p2
    obtain ⟨x5_1, x6_1, rfl, rfl, HA, HK1, BK1378, HB⟩ := hrel
    cases gk with
    | zero => exact absurd HA.out (by simp [spec_l5Write.l0])
    | succ k1 =>
      have H := HA.out
      clear HA
      simp only [spec_l5Write.l0] at H
      by_cases c4 : x6_1 < (l0_4.length : Int)
      · rw [if_pos c4] at H
        have c4b0 : decide (x6_1 < (l0_4.length : Int)) = true := decide_eq_true c4
        clear c4
        have HC5 := Aside0.mk H
        clear H
        have hcz6_0 : wr.cell? ⟨gb1378, 0, none⟩ = some (.int .i64 a0_0) := (blk_cell BK1378.out 0).trans rfl
        have hcz6_1 : wr.cell? ⟨gb1378, 1, none⟩ = some (.int .i64 a0_1) := (blk_cell BK1378.out 1).trans rfl
        have hcz6_2 : wr.cell? ⟨gb1378, 2, none⟩ = some (.string a0_2) := (blk_cell BK1378.out 2).trans rfl
        have hcz6_3 : wr.cell? ⟨gb1378, 3, none⟩ = some (.slice A0_3 l0_3.length c0_3) := (blk_cell BK1378.out 3).trans rfl
        have hcz6_4 : wr.cell? ⟨gb1378, 4, none⟩ = some (.slice A0_4 l0_4.length c0_4) := (blk_cell BK1378.out 4).trans rfl
        have hfz6_0 := blk_frozen BK1378.out 0
        have hfz6_1 := blk_frozen BK1378.out 1
        have hfz6_2 := blk_frozen BK1378.out 2
        have hfz6_3 := blk_frozen BK1378.out 3
        have hfz6_4 := blk_frozen BK1378.out 4
        go_upto_if 17 with (fail)
        go_cut [7] (fun v7 wc => ∃ (kq : Nat) (x7_4 : ByteArray), v7 = .string x7_4 ∧ Aside0 (spec_l5Write.j1 kq a1 x5_1 x6_1 x7_4 a0_0 a0_1 a0_2 l0_3 l0_4 = some r) ∧ Aside0 (kq ≤ k1) ∧ Aside0 (wc.heap[gb1378]? = some (.cells #[.int .i64 a0_0, .int .i64 a0_1, .string a0_2, (.slice A0_3 l0_3.length c0_3), (.slice A0_4 l0_4.length c0_4)] 25 (0, 0))) ∧ Aside0 (Below w.heap.size w wc))
        case first =>
          have H := HC5.out
          clear HC5
          by_cases c7 : a0_0 = 5
          · rw [if_pos c7] at H
            have c7b0 : (a0_0 == 5) = true := beq_iff_eq.mpr c7
            have c7b1 : (a0_0 != 5) = false := bne_eq_false_iff_eq.mpr c7
            clear c7
            (first | rw [c7b0] | rw [c7b1] | (simp only [i64_w, i32_w]; rw [c7b0]) | skip)
            by_cases c8 : 0 ≤ x6_1
            · rw [if_pos c8] at H
              have c8b0 : decide (0 ≤ x6_1) = true := decide_eq_true c8
              clear c8
              by_cases c9 : x6_1 < (l0_3.length : Int)
              · rw [if_pos c9] at H
                have c9b0 : decide (x6_1 < (l0_3.length : Int)) = true := decide_eq_true c9
                clear c9
                replace H := Option.bind_eq_some_iff.mp H
                obtain ⟨t1380, A100, H⟩ := H
                replace H : (if t1380.size + 1 ≤ 9223372036854775807 then ((spec_PlainOk.f k1 (rdOf ByteArray.empty l0_3 x6_1)).bind fun t1382 => (if t1382 = true then (if (rdOf ByteArray.empty l0_3 x6_1).size + 1 ≤ 9223372036854775807 then (spec_l5Write.j1 k1 a1 x5_1 x6_1 ((rdOf ByteArray.empty l0_3 x6_1) ++ (⟨#[58]⟩ : ByteArray)) a0_0 a0_1 a0_2 l0_3 l0_4) else (none)) else (spec_l5Write.j1 k1 a1 x5_1 x6_1 (t1380 ++ (⟨#[58]⟩ : ByteArray)) a0_0 a0_1 a0_2 l0_3 l0_4))) else (none)) = some r := H
                have A10 := Aside0.mk A100
                clear A100
                by_cases c11 : t1380.size + 1 ≤ 9223372036854775807
                · rw [if_pos c11] at H
                  have c11b0 := eq_true c11
                  have c11b1 : decide (t1380.size + 1 ≤ 9223372036854775807) = true := decide_eq_true c11
                  try have c11b2 : (9223372036854775807 < t1380.size + 1) = False := eq_false (Nat.not_lt.2 c11)
                  replace H := Option.bind_eq_some_iff.mp H
                  obtain ⟨t1382, A120, H⟩ := H
                  replace H : (if t1382 = true then (if (rdOf ByteArray.empty l0_3 x6_1).size + 1 ≤ 9223372036854775807 then (spec_l5Write.j1 k1 a1 x5_1 x6_1 ((rdOf ByteArray.empty l0_3 x6_1) ++ (⟨#[58]⟩ : ByteArray)) a0_0 a0_1 a0_2 l0_3 l0_4) else (none)) else (spec_l5Write.j1 k1 a1 x5_1 x6_1 (t1380 ++ (⟨#[58]⟩ : ByteArray)) a0_0 a0_1 a0_2 l0_3 l0_4)) = some r := H
                  have A12 := Aside0.mk A120
                  clear A120
                  have HC13 := Aside0.mk H
                  clear H
                  have hcz14_0 : wr.cell? ⟨gb1378, 0, none⟩ = some (.int .i64 a0_0) := (blk_cell BK1378.out 0).trans rfl
                  have hcz14_1 : wr.cell? ⟨gb1378, 1, none⟩ = some (.int .i64 a0_1) := (blk_cell BK1378.out 1).trans rfl
                  have hcz14_2 : wr.cell? ⟨gb1378, 2, none⟩ = some (.string a0_2) := (blk_cell BK1378.out 2).trans rfl
                  have hcz14_3 : wr.cell? ⟨gb1378, 3, none⟩ = some (.slice A0_3 l0_3.length c0_3) := (blk_cell BK1378.out 3).trans rfl
                  have hcz14_4 : wr.cell? ⟨gb1378, 4, none⟩ = some (.slice A0_4 l0_4.length c0_4) := (blk_cell BK1378.out 4).trans rfl
                  have hfz14_0 := blk_frozen BK1378.out 0
                  have hfz14_1 := blk_frozen BK1378.out 1
                  have hfz14_2 := blk_frozen BK1378.out 2
                  have hfz14_3 := blk_frozen BK1378.out 3
                  have hfz14_4 := blk_frozen BK1378.out 4
                  have p1379 : 0 ≤ (x6_1 : Int) := of_decide_eq_true (by first | (with_reducible assumption) | assumption)
                  have q1379 : x6_1 < (l0_3.length : Int) := of_decide_eq_true (by first | (with_reducible assumption) | assumption)
                  obtain ⟨ad1379, e1379, hx1379_0⟩ := Kd.at_string HR0_3.out x6_1 p1379 q1379
                  cases e1379
                  replace hx1379_0 := (HB.out.cell (World.block_lt_of_cell? w _ hx1379_0)).trans hx1379_0
                  replace p1379 := eq_true p1379
                  replace q1379 := eq_true q1379
                  go_upto_if 30 with (first | ((with_reducible refine gate_callee (f := 140) rfl ?_); refine goesL_ (some 23) rfl rfl Try.func140 (by kernel_rfl) rfl #[.string (rdOf ByteArray.empty l0_3 x6_1)] rfl (by (try simp only [List.map_toArray, List.map_cons, List.map_nil]); first | done | rfl | (simp only [List.length_drop, List.length_take]; rfl)) ?_; (with_reducible refine (spec_Quote.calls k1 (rdOf ByteArray.empty l0_3 x6_1) t1380 _ A10.out).mono ?_); rintro e w15 ⟨rfl, hb⟩; refine ⟨_, rfl, ?_⟩; have n0_ := Aside0.mk (blk_below (g := gb1378) (o := .cells #[.int .i64 a0_0, .int .i64 a0_1, .string a0_2, .slice (some ad1379) l0_3.length c0_3, .slice A0_4 l0_4.length c0_4] 25 (0, 0)) (by (with_reducible repeat (first | refine blk_drewN ?_ _ | refine blk_drew ?_ | refine blk_alloc ?_ _)); exact BK1378.out) hb); have n1_ := Aside0.mk (below_step (by repeat (first | (with_reducible first | exact HB.out | apply below_alloc | apply pw_below_drewN | apply below_drew1 | refine below_set ?_ GE1378.out) | exact HB.out)) hb); clear BK1378; clear HB; have BK1378 := n0_; have HB := n1_; clear n0_ n1_; (try clear hb); (try clear hb2); (try clear hk); (try clear hi); have hcz16_0 : w15.cell? ⟨gb1378, 0, none⟩ = some (.int .i64 a0_0) := (blk_cell BK1378.out 0).trans rfl; have hcz16_1 : w15.cell? ⟨gb1378, 1, none⟩ = some (.int .i64 a0_1) := (blk_cell BK1378.out 1).trans rfl; have hcz16_2 : w15.cell? ⟨gb1378, 2, none⟩ = some (.string a0_2) := (blk_cell BK1378.out 2).trans rfl; have hcz16_3 : w15.cell? ⟨gb1378, 3, none⟩ = some (.slice (some ad1379) l0_3.length c0_3) := (blk_cell BK1378.out 3).trans rfl; have hcz16_4 : w15.cell? ⟨gb1378, 4, none⟩ = some (.slice A0_4 l0_4.length c0_4) := (blk_cell BK1378.out 4).trans rfl; have hfz16_0 := blk_frozen BK1378.out 0; have hfz16_1 := blk_frozen BK1378.out 1; have hfz16_2 := blk_frozen BK1378.out 2; have hfz16_3 := blk_frozen BK1378.out 3; have hfz16_4 := blk_frozen BK1378.out 4; have p1381 : 0 ≤ (x6_1 : Int) := of_decide_eq_true (by first | (with_reducible assumption) | assumption); have q1381 : x6_1 < (l0_3.length : Int) := of_decide_eq_true (by first | (with_reducible assumption) | assumption); obtain ⟨ad1381, e1381, hx1381_0⟩ := Kd.at_string HR0_3.out x6_1 p1381 q1381; obtain rfl : ad1379 = ad1381 := (by injection e1381); replace hx1381_0 := (HB.out.cell (World.block_lt_of_cell? w _ hx1381_0)).trans hx1381_0; replace p1381 := eq_true p1381; replace q1381 := eq_true q1381) | ((with_reducible refine gate_callee (f := 113) rfl ?_); refine goesL_ (some 30) rfl rfl Try.func113 (by kernel_rfl) rfl #[.string (rdOf ByteArray.empty l0_3 x6_1)] rfl (by (try simp only [List.map_toArray, List.map_cons, List.map_nil]); first | done | rfl | (simp only [List.length_drop, List.length_take]; rfl)) ?_; (with_reducible refine (spec_PlainOk.calls k1 (rdOf ByteArray.empty l0_3 x6_1) t1382 _ A12.out).mono ?_); rintro e w' ⟨rfl, ⟨nd, rfl⟩⟩; refine ⟨_, rfl, ?_⟩))
                  (try simp only [Act.put, List.setIfInBounds_toArray, List.set_cons_zero, List.set_cons_succ])
                  try clear hx1379_0; try clear hx1381_0
                  have H := HC13.out
                  clear HC13
                  by_cases c17 : t1382 = true
                  · subst c17
                    have H1 : (if (rdOf ByteArray.empty l0_3 x6_1).size + 1 ≤ 9223372036854775807 then (spec_l5Write.j1 k1 a1 x5_1 x6_1 ((rdOf ByteArray.empty l0_3 x6_1) ++ (⟨#[58]⟩ : ByteArray)) a0_0 a0_1 a0_2 l0_3 l0_4) else (none)) = some r := by rw [if_pos rfl] at H; exact H
                    clear H
                    have H := H1
                    clear H1
                    by_cases c18 : (rdOf ByteArray.empty l0_3 x6_1).size + 1 ≤ 9223372036854775807
                    · rw [if_pos c18] at H
                      have c18b0 := eq_true c18
                      have c18b1 : decide ((rdOf ByteArray.empty l0_3 x6_1).size + 1 ≤ 9223372036854775807) = true := decide_eq_true c18
                      try have c18b2 : (9223372036854775807 < (rdOf ByteArray.empty l0_3 x6_1).size + 1) = False := eq_false (Nat.not_lt.2 c18)
                      have H' := Aside0.mk H
                      clear H
                      have hcz19_0 : w15.cell? ⟨gb1378, 0, none⟩ = some (.int .i64 a0_0) := (blk_cell BK1378.out 0).trans rfl
                      have hcz19_1 : w15.cell? ⟨gb1378, 1, none⟩ = some (.int .i64 a0_1) := (blk_cell BK1378.out 1).trans rfl
                      have hcz19_2 : w15.cell? ⟨gb1378, 2, none⟩ = some (.string a0_2) := (blk_cell BK1378.out 2).trans rfl
                      have hcz19_3 : w15.cell? ⟨gb1378, 3, none⟩ = some (.slice (some ad1379) l0_3.length c0_3) := (blk_cell BK1378.out 3).trans rfl
                      have hcz19_4 : w15.cell? ⟨gb1378, 4, none⟩ = some (.slice A0_4 l0_4.length c0_4) := (blk_cell BK1378.out 4).trans rfl
                      have hfz19_0 := blk_frozen BK1378.out 0
                      have hfz19_1 := blk_frozen BK1378.out 1
                      have hfz19_2 := blk_frozen BK1378.out 2
                      have hfz19_3 := blk_frozen BK1378.out 3
                      have hfz19_4 := blk_frozen BK1378.out 4
                      have p1383 : 0 ≤ (x6_1 : Int) := of_decide_eq_true (by first | (with_reducible assumption) | assumption)
                      have q1383 : x6_1 < (l0_3.length : Int) := of_decide_eq_true (by first | (with_reducible assumption) | assumption)
                      obtain ⟨ad1383, e1383, hx1383_0⟩ := Kd.at_string HR0_3.out x6_1 p1383 q1383
                      obtain rfl : ad1379 = ad1383 := (by injection e1383)
                      replace hx1383_0 := (HB.out.cell (World.block_lt_of_cell? w _ hx1383_0)).trans hx1383_0
                      replace p1383 := eq_true p1383
                      replace q1383 := eq_true q1383
                      go_wp2
                      go_meet
                      case rel => exact ⟨_, ((rdOf ByteArray.empty l0_3 x6_1) ++ (⟨#[58]⟩ : ByteArray)), (by first | rfl | (simp; done) | (simp [*]; done)), H', ⟨by have := HK1.out; first | omega | exact Nat.le_refl _⟩, ⟨by (with_reducible repeat (first | refine blk_drewN ?_ _ | refine blk_drew ?_ | refine blk_alloc ?_ _)); exact BK1378.out⟩, ⟨by repeat (first | (with_reducible first | exact HB.out | apply below_alloc | apply pw_below_drewN | apply below_drew1 | refine below_set ?_ GE1378.out) | exact HB.out)⟩⟩
                    · rw [if_neg c18] at H
                      exact absurd H (by simp)
                  · replace c17 := Bool.eq_false_iff.mpr c17
                    subst c17
                    have H1 : (spec_l5Write.j1 k1 a1 x5_1 x6_1 (t1380 ++ (⟨#[58]⟩ : ByteArray)) a0_0 a0_1 a0_2 l0_3 l0_4) = some r := by rw [if_neg (show ¬ (false = true) by decide)] at H; exact H
                    clear H
                    have H := H1
                    clear H1
                    have H' := Aside0.mk H
                    clear H
                    go_wp2
                    go_meet
                    case rel => exact ⟨_, (t1380 ++ (⟨#[58]⟩ : ByteArray)), (by first | rfl | (simp; done) | (simp [*]; done)), H', ⟨by have := HK1.out; first | omega | exact Nat.le_refl _⟩, ⟨by (with_reducible repeat (first | refine blk_drewN ?_ _ | refine blk_drew ?_ | refine blk_alloc ?_ _)); exact BK1378.out⟩, ⟨by repeat (first | (with_reducible first | exact HB.out | apply below_alloc | apply pw_below_drewN | apply below_drew1 | refine below_set ?_ GE1378.out) | exact HB.out)⟩⟩
                · rw [if_neg c11] at H
                  exact absurd H (by simp)
              · rw [if_neg c9] at H
                exact absurd H (by simp)
            · rw [if_neg c8] at H
              exact absurd H (by simp)
          · rw [if_neg c7] at H
            have c7b0 : (a0_0 == 5) = false := beq_eq_false_iff_ne.mpr c7
            have c7b1 : (a0_0 != 5) = true := bne_iff_ne.mpr c7
            (first | rw [c7b0] | rw [c7b1] | (simp only [i64_w, i32_w]; rw [c7b0]) | skip)
            have H' := Aside0.mk H
            clear H
            go_wp2
            go_meet
            case rel => exact ⟨_, ((⟨#[45]⟩ : ByteArray)), (by first | rfl | (simp; done) | (simp [*]; done)), H', ⟨by have := HK1.out; first | omega | exact Nat.le_refl _⟩, ⟨by (with_reducible repeat (first | refine blk_drewN ?_ _ | refine blk_drew ?_ | refine blk_alloc ?_ _)); exact BK1378.out⟩, ⟨by repeat (first | (with_reducible first | exact HB.out | apply below_alloc | apply pw_below_drewN | apply below_drew1 | refine below_set ?_ GE1378.out) | exact HB.out)⟩⟩
        case rest =>
          clear HC5
          try clear c1
          try clear p1
          try clear q1
          try clear hx1
          try clear p2
          try clear c4
          try clear c4b0
          try clear c7
          try clear c7b0
          try clear c7b1
          try clear c8
          try clear c8b0
          try clear c9
          try clear c9b0
          try clear c11
          try clear c11b0
          try clear c11b1
          try clear c11b2
          try clear c12
          try clear p13
          try clear q13
          try clear hx13
          try clear c14
          try clear c17
          try clear c18
          try clear c18b0
          try clear c18b1
          try clear c18b2
          try clear hcz14_0
          try clear hcz14_1
          try clear hcz14_2
          try clear hcz14_3
          try clear hcz14_4
          try clear hcz16_0
          try clear hcz16_1
          try clear hcz16_2
          try clear hcz16_3
          try clear hcz16_4
          try clear hcz19_0
          try clear hcz19_1
          try clear hcz19_2
          try clear hcz19_3
          try clear hcz19_4
          try clear hcz6_0
          try clear hcz6_1
          try clear hcz6_2
          try clear hcz6_3
          try clear hcz6_4
          try clear hfz14_0
          try clear hfz14_1
          try clear hfz14_2
          try clear hfz14_3
          try clear hfz14_4
          try clear hfz16_0
          try clear hfz16_1
          try clear hfz16_2
          try clear hfz16_3
          try clear hfz16_4
          try clear hfz19_0
          try clear hfz19_1
          try clear hfz19_2
          try clear hfz19_3
          try clear hfz19_4
          try clear hfz6_0
          try clear hfz6_1
          try clear hfz6_2
          try clear hfz6_3
          try clear hfz6_4
          try clear hx1379_0
          try clear hx1381_0
          try clear hx1383_0
          try clear p1379
          try clear p1381
          try clear p1383
          try clear p2
          try clear q1379
          try clear q1381
          try clear q1383
          obtain ⟨kq, x7_4, rfl, HA, HJ4, BK1378, HB⟩ := hcut
          cases kq with
          | zero => exact absurd HA.out (by simp [spec_l5Write.j1])
          | succ kj4 =>
            have H := HA.out
            clear HA
            simp only [spec_l5Write.j1] at H
            by_cases c20 : x5_1.size + a1.size ≤ 9223372036854775807
            · rw [if_pos c20] at H
              have c20b0 := eq_true c20
              have c20b1 : decide (x5_1.size + a1.size ≤ 9223372036854775807) = true := decide_eq_true c20
              try have c20b2 : (9223372036854775807 < x5_1.size + a1.size) = False := eq_false (Nat.not_lt.2 c20)
              by_cases c21 : (x5_1 ++ a1).size + x7_4.size ≤ 9223372036854775807
              · rw [if_pos c21] at H
                have c21b0 := eq_true c21
                have c21b1 : decide ((x5_1 ++ a1).size + x7_4.size ≤ 9223372036854775807) = true := decide_eq_true c21
                try have c21b2 : (9223372036854775807 < (x5_1 ++ a1).size + x7_4.size) = False := eq_false (Nat.not_lt.2 c21)
                try have c21b3 : (9223372036854775807 < x5_1.size + a1.size + x7_4.size) = False := eq_false (by have h_ := c21; simp only [ByteArray.size_append'] at h_; omega)
                by_cases c22 : 0 ≤ x6_1
                · rw [if_pos c22] at H
                  have c22b0 : decide (0 ≤ x6_1) = true := decide_eq_true c22
                  clear c22
                  by_cases c23 : x6_1 < (l0_4.length : Int)
                  · rw [if_pos c23] at H
                    have c23b0 : decide (x6_1 < (l0_4.length : Int)) = true := decide_eq_true c23
                    clear c23
                    replace H := Option.bind_eq_some_iff.mp H
                    obtain ⟨t1385, A240, H⟩ := H
                    replace H : (if t1385 = true then (if ((x5_1 ++ a1) ++ x7_4).size + 1 ≤ 9223372036854775807 then (if a1.size + 2 ≤ 9223372036854775807 then ((spec_l5Write.f kj4 ((rd_T25 l0_4 x6_1).f0) ((rd_T25 l0_4 x6_1).f1) ((rd_T25 l0_4 x6_1).f2) ((rd_T25 l0_4 x6_1).f3) ((rd_T25 l0_4 x6_1).f4) (a1 ++ (⟨#[32, 32]⟩ : ByteArray))).bind fun t1387 => (if (((x5_1 ++ a1) ++ x7_4) ++ (⟨#[10]⟩ : ByteArray)).size + t1387.size ≤ 9223372036854775807 then (spec_l5Write.l0 kj4 a1 ((((x5_1 ++ a1) ++ x7_4) ++ (⟨#[10]⟩ : ByteArray)) ++ t1387) (wrap64 (x6_1 + 1)) a0_0 a0_1 a0_2 l0_3 l0_4) else (none))) else (none)) else (none)) else (if ((x5_1 ++ a1) ++ x7_4).size + 1 ≤ 9223372036854775807 then ((spec_Inline.f kj4 ((rd_T25 l0_4 x6_1).f0) ((rd_T25 l0_4 x6_1).f1) ((rd_T25 l0_4 x6_1).f2) ((rd_T25 l0_4 x6_1).f3) ((rd_T25 l0_4 x6_1).f4)).bind fun t1389 => (if (((x5_1 ++ a1) ++ x7_4) ++ (⟨#[32]⟩ : ByteArray)).size + t1389.size ≤ 9223372036854775807 then (if ((((x5_1 ++ a1) ++ x7_4) ++ (⟨#[32]⟩ : ByteArray)) ++ t1389).size + 1 ≤ 9223372036854775807 then (spec_l5Write.l0 kj4 a1 (((((x5_1 ++ a1) ++ x7_4) ++ (⟨#[32]⟩ : ByteArray)) ++ t1389) ++ (⟨#[10]⟩ : ByteArray)) (wrap64 (x6_1 + 1)) a0_0 a0_1 a0_2 l0_3 l0_4) else (none)) else (none))) else (none))) = some r := H
                    have A24 := Aside0.mk A240
                    clear A240
                    have HC25 := Aside0.mk H
                    clear H
                    have hcz26_0 : wc.cell? ⟨gb1378, 0, none⟩ = some (.int .i64 a0_0) := (blk_cell BK1378.out 0).trans rfl
                    have hcz26_1 : wc.cell? ⟨gb1378, 1, none⟩ = some (.int .i64 a0_1) := (blk_cell BK1378.out 1).trans rfl
                    have hcz26_2 : wc.cell? ⟨gb1378, 2, none⟩ = some (.string a0_2) := (blk_cell BK1378.out 2).trans rfl
                    have hcz26_3 : wc.cell? ⟨gb1378, 3, none⟩ = some (.slice A0_3 l0_3.length c0_3) := (blk_cell BK1378.out 3).trans rfl
                    have hcz26_4 : wc.cell? ⟨gb1378, 4, none⟩ = some (.slice A0_4 l0_4.length c0_4) := (blk_cell BK1378.out 4).trans rfl
                    have hfz26_0 := blk_frozen BK1378.out 0
                    have hfz26_1 := blk_frozen BK1378.out 1
                    have hfz26_2 := blk_frozen BK1378.out 2
                    have hfz26_3 := blk_frozen BK1378.out 3
                    have hfz26_4 := blk_frozen BK1378.out 4
                    have p1384 : 0 ≤ (x6_1 : Int) := of_decide_eq_true (by first | (with_reducible assumption) | assumption)
                    have q1384 : x6_1 < (l0_4.length : Int) := of_decide_eq_true (by first | (with_reducible assumption) | assumption)
                    obtain ⟨ad1384, A1384_3, c1384_3, A1384_4, c1384_4, e1384, hx1384_0, hx1384_1, hx1384_2, hx1384_3, hx1384_4, hl1384_3, hi1384_3, hl1384_4, hi1384_4⟩ := at_T25 HR0_4.out x6_1 p1384 q1384
                    cases e1384
                    replace hx1384_0 := (HB.out.cell (World.block_lt_of_cell? w _ hx1384_0)).trans hx1384_0
                    replace hx1384_1 := (HB.out.cell (World.block_lt_of_cell? w _ hx1384_1)).trans hx1384_1
                    replace hx1384_2 := (HB.out.cell (World.block_lt_of_cell? w _ hx1384_2)).trans hx1384_2
                    replace hx1384_3 := (HB.out.cell (World.block_lt_of_cell? w _ hx1384_3)).trans hx1384_3
                    replace hx1384_4 := (HB.out.cell (World.block_lt_of_cell? w _ hx1384_4)).trans hx1384_4
                    have HR1384_3 := Aside0.mk hi1384_3
                    have HC1384_3 := Aside0.mk hl1384_3
                    clear hi1384_3 hl1384_3
                    have HR1384_4 := Aside0.mk hi1384_4
                    have HC1384_4 := Aside0.mk hl1384_4
                    clear hi1384_4 hl1384_4
                    replace p1384 := eq_true p1384
                    replace q1384 := eq_true q1384
                    go_upto_if 47 with (first | ((with_reducible refine gate_callee (f := 119) rfl ?_); refine goesL_ (some 47) rfl rfl Try.func119 (by kernel_rfl) rfl #[.agg #[.int .i64 ((rd_T25 l0_4 x6_1).f0), .int .i64 ((rd_T25 l0_4 x6_1).f1), .string ((rd_T25 l0_4 x6_1).f2), .slice A1384_3 ((rd_T25 l0_4 x6_1).f3).length c1384_3, .slice A1384_4 ((rd_T25 l0_4 x6_1).f4).length c1384_4]] rfl (by (try simp only [List.map_toArray, List.map_cons, List.map_nil]); first | done | rfl | (simp only [List.length_drop, List.length_take]; rfl)) ?_; (with_reducible refine (spec_l5Block.calls ((rd_T25 l0_4 x6_1).f0) ((rd_T25 l0_4 x6_1).f1) ((rd_T25 l0_4 x6_1).f2) _ _ ((rd_T25 l0_4 x6_1).f3) _ _ ((rd_T25 l0_4 x6_1).f4) t1385 _ ?side1 ?side2 ?side3 ?side4 A24.out).mono ?_); (case side1 => repeat (first | exact (Kd.C_below HR1384_3.out HB.out) | (with_reducible refine Kd.C_alloc ?_ _) | (with_reducible refine Kd.C_drewN ?_ _) | (with_reducible refine Kd.C_drew ?_))); (case side2 => exact HC1384_3.out); (case side3 => repeat (first | exact (Kd.C_below HR1384_4.out HB.out) | (with_reducible refine Kd.C_alloc ?_ _) | (with_reducible refine Kd.C_drewN ?_ _) | (with_reducible refine Kd.C_drew ?_))); (case side4 => exact HC1384_4.out); rintro e w27 ⟨rfl, hb⟩; refine ⟨_, rfl, ?_⟩; have n0_ := Aside0.mk (blk_below (g := gb1378) (o := .cells #[.int .i64 a0_0, .int .i64 a0_1, .string a0_2, .slice A0_3 l0_3.length c0_3, .slice (some ad1384) l0_4.length c0_4] 25 (0, 0)) (by (with_reducible repeat (first | refine blk_drewN ?_ _ | refine blk_drew ?_ | refine blk_alloc ?_ _)); exact BK1378.out) hb); have n1_ := Aside0.mk (below_step (by repeat (first | (with_reducible first | exact HB.out | apply below_alloc | apply pw_below_drewN | apply below_drew1 | refine below_set ?_ GE1378.out) | exact HB.out)) hb); clear BK1378; clear HB; have BK1378 := n0_; have HB := n1_; clear n0_ n1_; (try clear hb); (try clear hb2); (try clear hk); (try clear hi)))
                    (try simp only [Act.put, List.setIfInBounds_toArray, List.set_cons_zero, List.set_cons_succ])
                    try clear hx1384_0; try clear hx1384_1; try clear hx1384_2; try clear hx1384_3; try clear hx1384_4
                    have H := HC25.out
                    clear HC25
                    by_cases c28 : t1385 = true
                    · subst c28
                      have H1 : (if ((x5_1 ++ a1) ++ x7_4).size + 1 ≤ 9223372036854775807 then (if a1.size + 2 ≤ 9223372036854775807 then ((spec_l5Write.f kj4 ((rd_T25 l0_4 x6_1).f0) ((rd_T25 l0_4 x6_1).f1) ((rd_T25 l0_4 x6_1).f2) ((rd_T25 l0_4 x6_1).f3) ((rd_T25 l0_4 x6_1).f4) (a1 ++ (⟨#[32, 32]⟩ : ByteArray))).bind fun t1387 => (if (((x5_1 ++ a1) ++ x7_4) ++ (⟨#[10]⟩ : ByteArray)).size + t1387.size ≤ 9223372036854775807 then (spec_l5Write.l0 kj4 a1 ((((x5_1 ++ a1) ++ x7_4) ++ (⟨#[10]⟩ : ByteArray)) ++ t1387) (wrap64 (x6_1 + 1)) a0_0 a0_1 a0_2 l0_3 l0_4) else (none))) else (none)) else (none)) = some r := by rw [if_pos rfl] at H; exact H
                      clear H
                      have H := H1
                      clear H1
                      by_cases c29 : ((x5_1 ++ a1) ++ x7_4).size + 1 ≤ 9223372036854775807
                      · rw [if_pos c29] at H
                        have c29b0 := eq_true c29
                        have c29b1 : decide (((x5_1 ++ a1) ++ x7_4).size + 1 ≤ 9223372036854775807) = true := decide_eq_true c29
                        try have c29b2 : (9223372036854775807 < ((x5_1 ++ a1) ++ x7_4).size + 1) = False := eq_false (Nat.not_lt.2 c29)
                        try have c29b3 : (9223372036854775807 < x5_1.size + a1.size + x7_4.size + 1) = False := eq_false (by have h_ := c29; simp only [ByteArray.size_append'] at h_; omega)
                        by_cases c30 : a1.size + 2 ≤ 9223372036854775807
                        · rw [if_pos c30] at H
                          have c30b0 := eq_true c30
                          have c30b1 : decide (a1.size + 2 ≤ 9223372036854775807) = true := decide_eq_true c30
                          try have c30b2 : (9223372036854775807 < a1.size + 2) = False := eq_false (Nat.not_lt.2 c30)
                          replace H := Option.bind_eq_some_iff.mp H
                          obtain ⟨t1387, A310, H⟩ := H
                          replace H : (if (((x5_1 ++ a1) ++ x7_4) ++ (⟨#[10]⟩ : ByteArray)).size + t1387.size ≤ 9223372036854775807 then (spec_l5Write.l0 kj4 a1 ((((x5_1 ++ a1) ++ x7_4) ++ (⟨#[10]⟩ : ByteArray)) ++ t1387) (wrap64 (x6_1 + 1)) a0_0 a0_1 a0_2 l0_3 l0_4) else (none)) = some r := H
                          have A31 := Aside0.mk A310
                          clear A310
                          by_cases c32 : (((x5_1 ++ a1) ++ x7_4) ++ (⟨#[10]⟩ : ByteArray)).size + t1387.size ≤ 9223372036854775807
                          · rw [if_pos c32] at H
                            have c32b0 := eq_true c32
                            have c32b1 : decide ((((x5_1 ++ a1) ++ x7_4) ++ (⟨#[10]⟩ : ByteArray)).size + t1387.size ≤ 9223372036854775807) = true := decide_eq_true c32
                            try have c32b2 : (9223372036854775807 < (((x5_1 ++ a1) ++ x7_4) ++ (⟨#[10]⟩ : ByteArray)).size + t1387.size) = False := eq_false (Nat.not_lt.2 c32)
                            try have c32b3 : (9223372036854775807 < x5_1.size + a1.size + x7_4.size + 1 + t1387.size) = False := eq_false (by have h_ := c32; have l0_ : (⟨#[10]⟩ : ByteArray).size = 1 := rfl; simp only [ByteArray.size_append'] at h_; omega)
                            have H' := Aside0.mk H
                            clear H
                            have hcz33_0 : w27.cell? ⟨gb1378, 0, none⟩ = some (.int .i64 a0_0) := (blk_cell BK1378.out 0).trans rfl
                            have hcz33_1 : w27.cell? ⟨gb1378, 1, none⟩ = some (.int .i64 a0_1) := (blk_cell BK1378.out 1).trans rfl
                            have hcz33_2 : w27.cell? ⟨gb1378, 2, none⟩ = some (.string a0_2) := (blk_cell BK1378.out 2).trans rfl
                            have hcz33_3 : w27.cell? ⟨gb1378, 3, none⟩ = some (.slice A0_3 l0_3.length c0_3) := (blk_cell BK1378.out 3).trans rfl
                            have hcz33_4 : w27.cell? ⟨gb1378, 4, none⟩ = some (.slice (some ad1384) l0_4.length c0_4) := (blk_cell BK1378.out 4).trans rfl
                            have hfz33_0 := blk_frozen BK1378.out 0
                            have hfz33_1 := blk_frozen BK1378.out 1
                            have hfz33_2 := blk_frozen BK1378.out 2
                            have hfz33_3 := blk_frozen BK1378.out 3
                            have hfz33_4 := blk_frozen BK1378.out 4
                            have p1386 : 0 ≤ (x6_1 : Int) := of_decide_eq_true (by first | (with_reducible assumption) | assumption)
                            have q1386 : x6_1 < (l0_4.length : Int) := of_decide_eq_true (by first | (with_reducible assumption) | assumption)
                            obtain ⟨ad1386, A1386_3, c1386_3, A1386_4, c1386_4, e1386, hx1386_0, hx1386_1, hx1386_2, hx1386_3, hx1386_4, hl1386_3, hi1386_3, hl1386_4, hi1386_4⟩ := at_T25 HR0_4.out x6_1 p1386 q1386
                            obtain rfl : ad1384 = ad1386 := (by injection e1386)
                            replace hx1386_0 := (HB.out.cell (World.block_lt_of_cell? w _ hx1386_0)).trans hx1386_0
                            replace hx1386_1 := (HB.out.cell (World.block_lt_of_cell? w _ hx1386_1)).trans hx1386_1
                            replace hx1386_2 := (HB.out.cell (World.block_lt_of_cell? w _ hx1386_2)).trans hx1386_2
                            replace hx1386_3 := (HB.out.cell (World.block_lt_of_cell? w _ hx1386_3)).trans hx1386_3
                            replace hx1386_4 := (HB.out.cell (World.block_lt_of_cell? w _ hx1386_4)).trans hx1386_4
                            have HR1386_3 := Aside0.mk hi1386_3
                            have HC1386_3 := Aside0.mk hl1386_3
                            clear hi1386_3 hl1386_3
                            have HR1386_4 := Aside0.mk hi1386_4
                            have HC1386_4 := Aside0.mk hl1386_4
                            clear hi1386_4 hl1386_4
                            replace p1386 := eq_true p1386
                            replace q1386 := eq_true q1386
                            go_wp2_with (first | ((with_reducible refine gate_callee (f := 120) rfl ?_); refine goesL_ (some 57) rfl rfl Try.func120 (by kernel_rfl) rfl #[.agg #[.int .i64 ((rd_T25 l0_4 x6_1).f0), .int .i64 ((rd_T25 l0_4 x6_1).f1), .string ((rd_T25 l0_4 x6_1).f2), .slice A1386_3 ((rd_T25 l0_4 x6_1).f3).length c1386_3, .slice A1386_4 ((rd_T25 l0_4 x6_1).f4).length c1386_4], .string (a1 ++ (⟨#[32, 32]⟩ : ByteArray))] rfl (by (try simp only [List.map_toArray, List.map_cons, List.map_nil]); first | done | rfl | (simp only [List.length_drop, List.length_take]; rfl)) ?_; (with_reducible refine (ih kj4 (by have := HK1.out; have := HJ4.out; omega) ((rd_T25 l0_4 x6_1).f0) ((rd_T25 l0_4 x6_1).f1) ((rd_T25 l0_4 x6_1).f2) _ _ ((rd_T25 l0_4 x6_1).f3) _ _ ((rd_T25 l0_4 x6_1).f4) (a1 ++ (⟨#[32, 32]⟩ : ByteArray)) t1387 _ ?side1 ?side2 ?side3 ?side4 A31.out).mono ?_); (case side1 => repeat (first | exact (Kd.C_below HR1386_3.out HB.out) | (with_reducible refine Kd.C_alloc ?_ _) | (with_reducible refine Kd.C_drewN ?_ _) | (with_reducible refine Kd.C_drew ?_))); (case side2 => exact HC1386_3.out); (case side3 => repeat (first | exact (Kd.C_below HR1386_4.out HB.out) | (with_reducible refine Kd.C_alloc ?_ _) | (with_reducible refine Kd.C_drewN ?_ _) | (with_reducible refine Kd.C_drew ?_))); (case side4 => exact HC1386_4.out); rintro e w34 ⟨rfl, hb⟩; refine ⟨_, rfl, ?_⟩; have n0_ := Aside0.mk (blk_below (g := gb1378) (o := .cells #[.int .i64 a0_0, .int .i64 a0_1, .string a0_2, .slice A0_3 l0_3.length c0_3, .slice (some ad1384) l0_4.length c0_4] 25 (0, 0)) (by (with_reducible repeat (first | refine blk_drewN ?_ _ | refine blk_drew ?_ | refine blk_alloc ?_ _)); exact BK1378.out) hb); have n1_ := Aside0.mk (below_step (by repeat (first | (with_reducible first | exact HB.out | apply below_alloc | apply pw_below_drewN | apply below_drew1 | refine below_set ?_ GE1378.out) | exact HB.out)) hb); clear BK1378; clear HB; have BK1378 := n0_; have HB := n1_; clear n0_ n1_; (try clear hb); (try clear hb2); (try clear hk); (try clear hi)))
                            go_roundg kj4
                            case measure => have := HK1.out; have := HJ4.out; omega
                            case rel => exact ⟨((((x5_1 ++ a1) ++ x7_4) ++ (⟨#[10]⟩ : ByteArray)) ++ t1387), (wrap64 (x6_1 + 1)), (by first | rfl | (simp; done) | (simp [*]; done)), (by first | rfl | (simp; done) | (simp [*]; done)), H', ⟨by have := HK1.out; have := HJ4.out; omega⟩, ⟨by (with_reducible repeat (first | refine blk_drewN ?_ _ | refine blk_drew ?_ | refine blk_alloc ?_ _)); exact BK1378.out⟩, ⟨by repeat (first | (with_reducible first | exact HB.out | apply below_alloc | apply pw_below_drewN | apply below_drew1 | refine below_set ?_ GE1378.out) | exact HB.out)⟩⟩
                          · rw [if_neg c32] at H
                            exact absurd H (by simp)
                        · rw [if_neg c30] at H
                          exact absurd H (by simp)
                      · rw [if_neg c29] at H
                        exact absurd H (by simp)
                    · replace c28 := Bool.eq_false_iff.mpr c28
                      subst c28
                      have H1 : (if ((x5_1 ++ a1) ++ x7_4).size + 1 ≤ 9223372036854775807 then ((spec_Inline.f kj4 ((rd_T25 l0_4 x6_1).f0) ((rd_T25 l0_4 x6_1).f1) ((rd_T25 l0_4 x6_1).f2) ((rd_T25 l0_4 x6_1).f3) ((rd_T25 l0_4 x6_1).f4)).bind fun t1389 => (if (((x5_1 ++ a1) ++ x7_4) ++ (⟨#[32]⟩ : ByteArray)).size + t1389.size ≤ 9223372036854775807 then (if ((((x5_1 ++ a1) ++ x7_4) ++ (⟨#[32]⟩ : ByteArray)) ++ t1389).size + 1 ≤ 9223372036854775807 then (spec_l5Write.l0 kj4 a1 (((((x5_1 ++ a1) ++ x7_4) ++ (⟨#[32]⟩ : ByteArray)) ++ t1389) ++ (⟨#[10]⟩ : ByteArray)) (wrap64 (x6_1 + 1)) a0_0 a0_1 a0_2 l0_3 l0_4) else (none)) else (none))) else (none)) = some r := by rw [if_neg (show ¬ (false = true) by decide)] at H; exact H
                      clear H
                      have H := H1
                      clear H1
                      by_cases c35 : ((x5_1 ++ a1) ++ x7_4).size + 1 ≤ 9223372036854775807
                      · rw [if_pos c35] at H
                        have c35b0 := eq_true c35
                        have c35b1 : decide (((x5_1 ++ a1) ++ x7_4).size + 1 ≤ 9223372036854775807) = true := decide_eq_true c35
                        try have c35b2 : (9223372036854775807 < ((x5_1 ++ a1) ++ x7_4).size + 1) = False := eq_false (Nat.not_lt.2 c35)
                        try have c35b3 : (9223372036854775807 < x5_1.size + a1.size + x7_4.size + 1) = False := eq_false (by have h_ := c35; simp only [ByteArray.size_append'] at h_; omega)
                        replace H := Option.bind_eq_some_iff.mp H
                        obtain ⟨t1389, A360, H⟩ := H
                        replace H : (if (((x5_1 ++ a1) ++ x7_4) ++ (⟨#[32]⟩ : ByteArray)).size + t1389.size ≤ 9223372036854775807 then (if ((((x5_1 ++ a1) ++ x7_4) ++ (⟨#[32]⟩ : ByteArray)) ++ t1389).size + 1 ≤ 9223372036854775807 then (spec_l5Write.l0 kj4 a1 (((((x5_1 ++ a1) ++ x7_4) ++ (⟨#[32]⟩ : ByteArray)) ++ t1389) ++ (⟨#[10]⟩ : ByteArray)) (wrap64 (x6_1 + 1)) a0_0 a0_1 a0_2 l0_3 l0_4) else (none)) else (none)) = some r := H
                        have A36 := Aside0.mk A360
                        clear A360
                        by_cases c37 : (((x5_1 ++ a1) ++ x7_4) ++ (⟨#[32]⟩ : ByteArray)).size + t1389.size ≤ 9223372036854775807
                        · rw [if_pos c37] at H
                          have c37b0 := eq_true c37
                          have c37b1 : decide ((((x5_1 ++ a1) ++ x7_4) ++ (⟨#[32]⟩ : ByteArray)).size + t1389.size ≤ 9223372036854775807) = true := decide_eq_true c37
                          try have c37b2 : (9223372036854775807 < (((x5_1 ++ a1) ++ x7_4) ++ (⟨#[32]⟩ : ByteArray)).size + t1389.size) = False := eq_false (Nat.not_lt.2 c37)
                          try have c37b3 : (9223372036854775807 < x5_1.size + a1.size + x7_4.size + 1 + t1389.size) = False := eq_false (by have h_ := c37; have l0_ : (⟨#[32]⟩ : ByteArray).size = 1 := rfl; simp only [ByteArray.size_append'] at h_; omega)
                          by_cases c38 : ((((x5_1 ++ a1) ++ x7_4) ++ (⟨#[32]⟩ : ByteArray)) ++ t1389).size + 1 ≤ 9223372036854775807
                          · rw [if_pos c38] at H
                            have c38b0 := eq_true c38
                            have c38b1 : decide (((((x5_1 ++ a1) ++ x7_4) ++ (⟨#[32]⟩ : ByteArray)) ++ t1389).size + 1 ≤ 9223372036854775807) = true := decide_eq_true c38
                            try have c38b2 : (9223372036854775807 < ((((x5_1 ++ a1) ++ x7_4) ++ (⟨#[32]⟩ : ByteArray)) ++ t1389).size + 1) = False := eq_false (Nat.not_lt.2 c38)
                            try have c38b3 : (9223372036854775807 < x5_1.size + a1.size + x7_4.size + 1 + t1389.size + 1) = False := eq_false (by have h_ := c38; have l0_ : (⟨#[32]⟩ : ByteArray).size = 1 := rfl; simp only [ByteArray.size_append'] at h_; omega)
                            have H' := Aside0.mk H
                            clear H
                            have hcz39_0 : w27.cell? ⟨gb1378, 0, none⟩ = some (.int .i64 a0_0) := (blk_cell BK1378.out 0).trans rfl
                            have hcz39_1 : w27.cell? ⟨gb1378, 1, none⟩ = some (.int .i64 a0_1) := (blk_cell BK1378.out 1).trans rfl
                            have hcz39_2 : w27.cell? ⟨gb1378, 2, none⟩ = some (.string a0_2) := (blk_cell BK1378.out 2).trans rfl
                            have hcz39_3 : w27.cell? ⟨gb1378, 3, none⟩ = some (.slice A0_3 l0_3.length c0_3) := (blk_cell BK1378.out 3).trans rfl
                            have hcz39_4 : w27.cell? ⟨gb1378, 4, none⟩ = some (.slice (some ad1384) l0_4.length c0_4) := (blk_cell BK1378.out 4).trans rfl
                            have hfz39_0 := blk_frozen BK1378.out 0
                            have hfz39_1 := blk_frozen BK1378.out 1
                            have hfz39_2 := blk_frozen BK1378.out 2
                            have hfz39_3 := blk_frozen BK1378.out 3
                            have hfz39_4 := blk_frozen BK1378.out 4
                            have p1388 : 0 ≤ (x6_1 : Int) := of_decide_eq_true (by first | (with_reducible assumption) | assumption)
                            have q1388 : x6_1 < (l0_4.length : Int) := of_decide_eq_true (by first | (with_reducible assumption) | assumption)
                            obtain ⟨ad1388, A1388_3, c1388_3, A1388_4, c1388_4, e1388, hx1388_0, hx1388_1, hx1388_2, hx1388_3, hx1388_4, hl1388_3, hi1388_3, hl1388_4, hi1388_4⟩ := at_T25 HR0_4.out x6_1 p1388 q1388
                            obtain rfl : ad1384 = ad1388 := (by injection e1388)
                            replace hx1388_0 := (HB.out.cell (World.block_lt_of_cell? w _ hx1388_0)).trans hx1388_0
                            replace hx1388_1 := (HB.out.cell (World.block_lt_of_cell? w _ hx1388_1)).trans hx1388_1
                            replace hx1388_2 := (HB.out.cell (World.block_lt_of_cell? w _ hx1388_2)).trans hx1388_2
                            replace hx1388_3 := (HB.out.cell (World.block_lt_of_cell? w _ hx1388_3)).trans hx1388_3
                            replace hx1388_4 := (HB.out.cell (World.block_lt_of_cell? w _ hx1388_4)).trans hx1388_4
                            have HR1388_3 := Aside0.mk hi1388_3
                            have HC1388_3 := Aside0.mk hl1388_3
                            clear hi1388_3 hl1388_3
                            have HR1388_4 := Aside0.mk hi1388_4
                            have HC1388_4 := Aside0.mk hl1388_4
                            clear hi1388_4 hl1388_4
                            replace p1388 := eq_true p1388
                            replace q1388 := eq_true q1388
                            go_wp2_with (first | ((with_reducible refine gate_callee (f := 60) rfl ?_); refine goesL_ (some 66) rfl rfl Try.func60 (by kernel_rfl) rfl #[.agg #[.int .i64 ((rd_T25 l0_4 x6_1).f0), .int .i64 ((rd_T25 l0_4 x6_1).f1), .string ((rd_T25 l0_4 x6_1).f2), .slice A1388_3 ((rd_T25 l0_4 x6_1).f3).length c1388_3, .slice A1388_4 ((rd_T25 l0_4 x6_1).f4).length c1388_4]] rfl (by (try simp only [List.map_toArray, List.map_cons, List.map_nil]); first | done | rfl | (simp only [List.length_drop, List.length_take]; rfl)) ?_; (with_reducible refine (spec_Inline.calls kj4 ((rd_T25 l0_4 x6_1).f0) ((rd_T25 l0_4 x6_1).f1) ((rd_T25 l0_4 x6_1).f2) _ _ ((rd_T25 l0_4 x6_1).f3) _ _ ((rd_T25 l0_4 x6_1).f4) t1389 _ ?side1 ?side2 ?side3 ?side4 A36.out).mono ?_); (case side1 => repeat (first | exact (Kd.C_below HR1388_3.out HB.out) | (with_reducible refine Kd.C_alloc ?_ _) | (with_reducible refine Kd.C_drewN ?_ _) | (with_reducible refine Kd.C_drew ?_))); (case side2 => exact HC1388_3.out); (case side3 => repeat (first | exact (Kd.C_below HR1388_4.out HB.out) | (with_reducible refine Kd.C_alloc ?_ _) | (with_reducible refine Kd.C_drewN ?_ _) | (with_reducible refine Kd.C_drew ?_))); (case side4 => exact HC1388_4.out); rintro e w40 ⟨rfl, hb⟩; refine ⟨_, rfl, ?_⟩; have n0_ := Aside0.mk (blk_below (g := gb1378) (o := .cells #[.int .i64 a0_0, .int .i64 a0_1, .string a0_2, .slice A0_3 l0_3.length c0_3, .slice (some ad1384) l0_4.length c0_4] 25 (0, 0)) (by (with_reducible repeat (first | refine blk_drewN ?_ _ | refine blk_drew ?_ | refine blk_alloc ?_ _)); exact BK1378.out) hb); have n1_ := Aside0.mk (below_step (by repeat (first | (with_reducible first | exact HB.out | apply below_alloc | apply pw_below_drewN | apply below_drew1 | refine below_set ?_ GE1378.out) | exact HB.out)) hb); clear BK1378; clear HB; have BK1378 := n0_; have HB := n1_; clear n0_ n1_; (try clear hb); (try clear hb2); (try clear hk); (try clear hi)))
                            go_roundg kj4
                            case measure => have := HK1.out; have := HJ4.out; omega
                            case rel => exact ⟨(((((x5_1 ++ a1) ++ x7_4) ++ (⟨#[32]⟩ : ByteArray)) ++ t1389) ++ (⟨#[10]⟩ : ByteArray)), (wrap64 (x6_1 + 1)), (by first | rfl | (simp; done) | (simp [*]; done)), (by first | rfl | (simp; done) | (simp [*]; done)), H', ⟨by have := HK1.out; have := HJ4.out; omega⟩, ⟨by (with_reducible repeat (first | refine blk_drewN ?_ _ | refine blk_drew ?_ | refine blk_alloc ?_ _)); exact BK1378.out⟩, ⟨by repeat (first | (with_reducible first | exact HB.out | apply below_alloc | apply pw_below_drewN | apply below_drew1 | refine below_set ?_ GE1378.out) | exact HB.out)⟩⟩
                          · rw [if_neg c38] at H
                            exact absurd H (by simp)
                        · rw [if_neg c37] at H
                          exact absurd H (by simp)
                      · rw [if_neg c35] at H
                        exact absurd H (by simp)
                  · rw [if_neg c23] at H
                    exact absurd H (by simp)
                · rw [if_neg c22] at H
                  exact absurd H (by simp)
              · rw [if_neg c21] at H
                exact absurd H (by simp)
            · rw [if_neg c20] at H
              exact absurd H (by simp)
      · rw [if_neg c4] at H
        have c4b0 : decide (x6_1 < (l0_4.length : Int)) = false := decide_eq_false c4
        clear c4
        obtain rfl := Option.some.inj H
        have hcz41_0 : wr.cell? ⟨gb1378, 0, none⟩ = some (.int .i64 a0_0) := (blk_cell BK1378.out 0).trans rfl
        have hcz41_1 : wr.cell? ⟨gb1378, 1, none⟩ = some (.int .i64 a0_1) := (blk_cell BK1378.out 1).trans rfl
        have hcz41_2 : wr.cell? ⟨gb1378, 2, none⟩ = some (.string a0_2) := (blk_cell BK1378.out 2).trans rfl
        have hcz41_3 : wr.cell? ⟨gb1378, 3, none⟩ = some (.slice A0_3 l0_3.length c0_3) := (blk_cell BK1378.out 3).trans rfl
        have hcz41_4 : wr.cell? ⟨gb1378, 4, none⟩ = some (.slice A0_4 l0_4.length c0_4) := (blk_cell BK1378.out 4).trans rfl
        have hfz41_0 := blk_frozen BK1378.out 0
        have hfz41_1 := blk_frozen BK1378.out 1
        have hfz41_2 := blk_frozen BK1378.out 2
        have hfz41_3 := blk_frozen BK1378.out 3
        have hfz41_4 := blk_frozen BK1378.out 4
        go_wp2
        go_ret
        exact ⟨by first | rfl | (simp [errW_none, errW_some] <;> rfl) | (simp [*, errW_none, errW_some] <;> rfl), by repeat (first | (with_reducible first | exact HB.out | apply below_alloc | apply pw_below_drewN | apply below_drew1 | refine below_set ?_ GE1378.out) | exact HB.out)⟩

/-! ### spec_Indented: function 70 -/
def spec_Indented.f (k : Nat) (a0_0 : Int) (a0_1 : Int) (a0_2 : ByteArray) (l0_3 : List ByteArray) (l0_4 : List (S25)) : Option (ByteArray) := (spec_TreeOk.f k a0_0 a0_1 a0_2 l0_3 l0_4).bind fun t1391 => (if t1391 = true then ((spec_l5Block.f a0_0 a0_1 a0_2 l0_3 l0_4).bind fun t1392 => (if t1392 = true then ((spec_l5Write.f k a0_0 a0_1 a0_2 l0_3 l0_4 (⟨#[]⟩ : ByteArray)).bind fun t1393 => (some t1393)) else ((spec_Inline.f k a0_0 a0_1 a0_2 l0_3 l0_4).bind fun t1394 => (if t1394.size + 1 ≤ 9223372036854775807 then (some (t1394 ++ (⟨#[10]⟩ : ByteArray))) else (none))))) else (some (⟨#[]⟩ : ByteArray)))
theorem spec_Indented.mono : ∀ a0 a1 a2 a3 a4 k, LeO (spec_Indented.f k a0 a1 a2 a3 a4) (spec_Indented.f (k + 1) a0 a1 a2 a3 a4) := by
  intro a0 a1 a2 a3 a4 k
  unfold spec_Indented.f
  repeat' first
      | (with_reducible exact spec_Inline.mono _ _ _ _ _ _)
      | (with_reducible exact spec_TreeOk.mono _ _ _ _ _ _)
      | (with_reducible exact spec_l5Write.mono _ _ _ _ _ _ _)
      | (with_reducible exact LeO.refl _)
      | (with_reducible exact LeO.none _)
      | (with_reducible refine LeO.ite ?_ ?_)
      | (with_reducible refine LeO.bind ?_ (fun _ => ?_))
      | exact spec_Inline.mono _ _ _ _ _ _
      | exact spec_TreeOk.mono _ _ _ _ _ _
      | exact spec_l5Write.mono _ _ _ _ _ _ _
      | exact LeO.none _
      | refine LeO.ite ?_ ?_
      | refine LeO.bind ?_ (fun _ => ?_)
set_option maxHeartbeats 8000000 in
set_option maxRecDepth 100000 in
theorem spec_Indented.calls (k : Nat) (a0_0 : Int) (a0_1 : Int) (a0_2 : ByteArray) (A0_3 : Option Addr) (c0_3 : Nat) (l0_3 : List ByteArray) (A0_4 : Option Addr) (c0_4 : Nat) (l0_4 : List (S25)) (r : ByteArray) (w : World) (hr0_3 : Kd.C Kd.string w A0_3 l0_3.length l0_3) (hc0_3 : l0_3.length ≤ c0_3) (hr0_4 : Kd.C k25 w A0_4 l0_4.length l0_4) (hc0_4 : l0_4.length ≤ c0_4) (h : spec_Indented.f k a0_0 a0_1 a0_2 l0_3 l0_4 = some r) :
    Calls Try.prog 70 #[.agg #[.int .i64 a0_0, .int .i64 a0_1, .string a0_2, .slice A0_3 l0_3.length c0_3, .slice A0_4 l0_4.length c0_4]] w fun e w' => e = .returned (.string r) ∧ Below w.heap.size w w' := by
  have hu25 := Try.underlying25
  have HR0_3 := Aside0.mk hr0_3
  have HC0_3 := Aside0.mk hc0_3
  clear hr0_3 hc0_3
  have HR0_4 := Aside0.mk hr0_4
  have HC0_4 := Aside0.mk hc0_4
  clear hr0_4 hc0_4
  have HB := Aside0.mk (Below.refl w.heap.size w)
  have H : ((spec_TreeOk.f k a0_0 a0_1 a0_2 l0_3 l0_4).bind fun t1391 => (if t1391 = true then ((spec_l5Block.f a0_0 a0_1 a0_2 l0_3 l0_4).bind fun t1392 => (if t1392 = true then ((spec_l5Write.f k a0_0 a0_1 a0_2 l0_3 l0_4 (⟨#[]⟩ : ByteArray)).bind fun t1393 => (some t1393)) else ((spec_Inline.f k a0_0 a0_1 a0_2 l0_3 l0_4).bind fun t1394 => (if t1394.size + 1 ≤ 9223372036854775807 then (some (t1394 ++ (⟨#[10]⟩ : ByteArray))) else (none))))) else (some (⟨#[]⟩ : ByteArray)))) = some r := h
  clear h
  replace H := Option.bind_eq_some_iff.mp H
  obtain ⟨t1391, A20, H⟩ := H
  replace H : (if t1391 = true then ((spec_l5Block.f a0_0 a0_1 a0_2 l0_3 l0_4).bind fun t1392 => (if t1392 = true then ((spec_l5Write.f k a0_0 a0_1 a0_2 l0_3 l0_4 (⟨#[]⟩ : ByteArray)).bind fun t1393 => (some t1393)) else ((spec_Inline.f k a0_0 a0_1 a0_2 l0_3 l0_4).bind fun t1394 => (if t1394.size + 1 ≤ 9223372036854775807 then (some (t1394 ++ (⟨#[10]⟩ : ByteArray))) else (none))))) else (some (⟨#[]⟩ : ByteArray))) = some r := H
  have A2 := Aside0.mk A20
  clear A20
  have HC3 := Aside0.mk H
  clear H
  go_enter Try.func70, Try.ntmps70
  go_upto_if 5 with (first | ((with_reducible refine gate_dst (N := 1) rfl ?_); refine box_event ?hg (N := 1) ?hd (cs := #[.int .i64 a0_0, .int .i64 a0_1, .string a0_2, .slice A0_3 l0_3.length c0_3, .slice A0_4 l0_4.length c0_4]) (t := 25) ?hr ?_; (case hd => rfl); (case hg => rfl); (case hr => first | (go_simp; done) | (go_simp; rfl)); intro gb1390 hg w4 hbox hb; have n0_ := Aside0.mk (below_step (by repeat (first | (with_reducible first | exact HB.out | apply below_alloc | apply pw_below_drewN | apply below_drew1) | exact HB.out)) hb); have n1_ := Aside0.mk (hbox); have n2_ := Aside0.mk ((by rw [hg]; exact (below_size (by repeat (first | (with_reducible first | exact HB.out | apply below_alloc | apply pw_below_drewN | apply below_drew1) | exact HB.out))) : w.heap.size ≤ gb1390)); have n3_ := Aside0.mk ((by rw [hg]; exact (below_size (by repeat (first | (with_reducible first | exact HB.out | apply below_alloc | apply pw_below_drewN | apply below_drew1) | exact HB.out))) : w.heap.size ≤ gb1390)); clear HB; have HB := n0_; have BK1390 := n1_; have GW1390 := n2_; have GE1390 := n3_; clear n0_ n1_ n2_ n3_; clear hb hbox hg; have hcz5_0 : w4.cell? ⟨gb1390, 0, none⟩ = some (.int .i64 a0_0) := (blk_cell BK1390.out 0).trans rfl; have hcz5_1 : w4.cell? ⟨gb1390, 1, none⟩ = some (.int .i64 a0_1) := (blk_cell BK1390.out 1).trans rfl; have hcz5_2 : w4.cell? ⟨gb1390, 2, none⟩ = some (.string a0_2) := (blk_cell BK1390.out 2).trans rfl; have hcz5_3 : w4.cell? ⟨gb1390, 3, none⟩ = some (.slice A0_3 l0_3.length c0_3) := (blk_cell BK1390.out 3).trans rfl; have hcz5_4 : w4.cell? ⟨gb1390, 4, none⟩ = some (.slice A0_4 l0_4.length c0_4) := (blk_cell BK1390.out 4).trans rfl; have hfz5_0 := blk_frozen BK1390.out 0; have hfz5_1 := blk_frozen BK1390.out 1; have hfz5_2 := blk_frozen BK1390.out 2; have hfz5_3 := blk_frozen BK1390.out 3; have hfz5_4 := blk_frozen BK1390.out 4) | ((with_reducible refine gate_callee (f := 45) rfl ?_); refine goesL_ (some 4) rfl rfl Try.func45 (by kernel_rfl) rfl #[.agg #[.int .i64 a0_0, .int .i64 a0_1, .string a0_2, .slice A0_3 l0_3.length c0_3, .slice A0_4 l0_4.length c0_4]] rfl (by (try simp only [List.map_toArray, List.map_cons, List.map_nil]); first | done | rfl | (simp only [List.length_drop, List.length_take]; rfl)) ?_; (with_reducible refine (spec_TreeOk.calls k a0_0 a0_1 a0_2 _ _ l0_3 _ _ l0_4 t1391 _ ?side1 ?side2 ?side3 ?side4 A2.out).mono ?_); (case side1 => repeat (first | exact (Kd.C_below HR0_3.out HB.out) | (with_reducible refine Kd.C_alloc ?_ _) | (with_reducible refine Kd.C_drewN ?_ _) | (with_reducible refine Kd.C_drew ?_))); (case side2 => exact HC0_3.out); (case side3 => repeat (first | exact (Kd.C_below HR0_4.out HB.out) | (with_reducible refine Kd.C_alloc ?_ _) | (with_reducible refine Kd.C_drewN ?_ _) | (with_reducible refine Kd.C_drew ?_))); (case side4 => exact HC0_4.out); rintro e w6 ⟨rfl, hb⟩; refine ⟨_, rfl, ?_⟩; have n0_ := Aside0.mk (blk_below (g := gb1390) (o := .cells #[.int .i64 a0_0, .int .i64 a0_1, .string a0_2, .slice A0_3 l0_3.length c0_3, .slice A0_4 l0_4.length c0_4] 25 (0, 0)) (by (with_reducible repeat (first | refine blk_drewN ?_ _ | refine blk_drew ?_ | refine blk_alloc ?_ _)); exact BK1390.out) hb); have n1_ := Aside0.mk (below_step (by repeat (first | (with_reducible first | exact HB.out | apply below_alloc | apply pw_below_drewN | apply below_drew1 | refine below_set ?_ GE1390.out) | exact HB.out)) hb); clear BK1390; clear HB; have BK1390 := n0_; have HB := n1_; clear n0_ n1_; (try clear hb); (try clear hb2); (try clear hk); (try clear hi)))
  (try simp only [Act.put, List.setIfInBounds_toArray, List.set_cons_zero, List.set_cons_succ])
  have H := HC3.out
  clear HC3
  by_cases c7 : t1391 = true
  · subst c7
    have H1 : ((spec_l5Block.f a0_0 a0_1 a0_2 l0_3 l0_4).bind fun t1392 => (if t1392 = true then ((spec_l5Write.f k a0_0 a0_1 a0_2 l0_3 l0_4 (⟨#[]⟩ : ByteArray)).bind fun t1393 => (some t1393)) else ((spec_Inline.f k a0_0 a0_1 a0_2 l0_3 l0_4).bind fun t1394 => (if t1394.size + 1 ≤ 9223372036854775807 then (some (t1394 ++ (⟨#[10]⟩ : ByteArray))) else (none))))) = some r := by rw [if_pos rfl] at H; exact H
    clear H
    have H := H1
    clear H1
    replace H := Option.bind_eq_some_iff.mp H
    obtain ⟨t1392, A80, H⟩ := H
    replace H : (if t1392 = true then ((spec_l5Write.f k a0_0 a0_1 a0_2 l0_3 l0_4 (⟨#[]⟩ : ByteArray)).bind fun t1393 => (some t1393)) else ((spec_Inline.f k a0_0 a0_1 a0_2 l0_3 l0_4).bind fun t1394 => (if t1394.size + 1 ≤ 9223372036854775807 then (some (t1394 ++ (⟨#[10]⟩ : ByteArray))) else (none)))) = some r := H
    have A8 := Aside0.mk A80
    clear A80
    have HC9 := Aside0.mk H
    clear H
    have hcz10_0 : w6.cell? ⟨gb1390, 0, none⟩ = some (.int .i64 a0_0) := (blk_cell BK1390.out 0).trans rfl
    have hcz10_1 : w6.cell? ⟨gb1390, 1, none⟩ = some (.int .i64 a0_1) := (blk_cell BK1390.out 1).trans rfl
    have hcz10_2 : w6.cell? ⟨gb1390, 2, none⟩ = some (.string a0_2) := (blk_cell BK1390.out 2).trans rfl
    have hcz10_3 : w6.cell? ⟨gb1390, 3, none⟩ = some (.slice A0_3 l0_3.length c0_3) := (blk_cell BK1390.out 3).trans rfl
    have hcz10_4 : w6.cell? ⟨gb1390, 4, none⟩ = some (.slice A0_4 l0_4.length c0_4) := (blk_cell BK1390.out 4).trans rfl
    have hfz10_0 := blk_frozen BK1390.out 0
    have hfz10_1 := blk_frozen BK1390.out 1
    have hfz10_2 := blk_frozen BK1390.out 2
    have hfz10_3 := blk_frozen BK1390.out 3
    have hfz10_4 := blk_frozen BK1390.out 4
    go_upto_if 7 with (first | ((with_reducible refine gate_callee (f := 119) rfl ?_); refine goesL_ (some 7) rfl rfl Try.func119 (by kernel_rfl) rfl #[.agg #[.int .i64 a0_0, .int .i64 a0_1, .string a0_2, .slice A0_3 l0_3.length c0_3, .slice A0_4 l0_4.length c0_4]] rfl (by (try simp only [List.map_toArray, List.map_cons, List.map_nil]); first | done | rfl | (simp only [List.length_drop, List.length_take]; rfl)) ?_; (with_reducible refine (spec_l5Block.calls a0_0 a0_1 a0_2 _ _ l0_3 _ _ l0_4 t1392 _ ?side1 ?side2 ?side3 ?side4 A8.out).mono ?_); (case side1 => repeat (first | exact (Kd.C_below HR0_3.out HB.out) | (with_reducible refine Kd.C_alloc ?_ _) | (with_reducible refine Kd.C_drewN ?_ _) | (with_reducible refine Kd.C_drew ?_))); (case side2 => exact HC0_3.out); (case side3 => repeat (first | exact (Kd.C_below HR0_4.out HB.out) | (with_reducible refine Kd.C_alloc ?_ _) | (with_reducible refine Kd.C_drewN ?_ _) | (with_reducible refine Kd.C_drew ?_))); (case side4 => exact HC0_4.out); rintro e w11 ⟨rfl, hb⟩; refine ⟨_, rfl, ?_⟩; have n0_ := Aside0.mk (blk_below (g := gb1390) (o := .cells #[.int .i64 a0_0, .int .i64 a0_1, .string a0_2, .slice A0_3 l0_3.length c0_3, .slice A0_4 l0_4.length c0_4] 25 (0, 0)) (by (with_reducible repeat (first | refine blk_drewN ?_ _ | refine blk_drew ?_ | refine blk_alloc ?_ _)); exact BK1390.out) hb); have n1_ := Aside0.mk (below_step (by repeat (first | (with_reducible first | exact HB.out | apply below_alloc | apply pw_below_drewN | apply below_drew1 | refine below_set ?_ GE1390.out) | exact HB.out)) hb); clear BK1390; clear HB; have BK1390 := n0_; have HB := n1_; clear n0_ n1_; (try clear hb); (try clear hb2); (try clear hk); (try clear hi)))
    (try simp only [Act.put, List.setIfInBounds_toArray, List.set_cons_zero, List.set_cons_succ])
    have H := HC9.out
    clear HC9
    by_cases c12 : t1392 = true
    · subst c12
      have H1 : ((spec_l5Write.f k a0_0 a0_1 a0_2 l0_3 l0_4 (⟨#[]⟩ : ByteArray)).bind fun t1393 => (some t1393)) = some r := by rw [if_pos rfl] at H; exact H
      clear H
      have H := H1
      clear H1
      replace H := Option.bind_eq_some_iff.mp H
      obtain ⟨t1393, A130, H⟩ := H
      replace H : (some t1393) = some r := H
      have A13 := Aside0.mk A130
      clear A130
      obtain rfl := Option.some.inj H
      have hcz14_0 : w11.cell? ⟨gb1390, 0, none⟩ = some (.int .i64 a0_0) := (blk_cell BK1390.out 0).trans rfl
      have hcz14_1 : w11.cell? ⟨gb1390, 1, none⟩ = some (.int .i64 a0_1) := (blk_cell BK1390.out 1).trans rfl
      have hcz14_2 : w11.cell? ⟨gb1390, 2, none⟩ = some (.string a0_2) := (blk_cell BK1390.out 2).trans rfl
      have hcz14_3 : w11.cell? ⟨gb1390, 3, none⟩ = some (.slice A0_3 l0_3.length c0_3) := (blk_cell BK1390.out 3).trans rfl
      have hcz14_4 : w11.cell? ⟨gb1390, 4, none⟩ = some (.slice A0_4 l0_4.length c0_4) := (blk_cell BK1390.out 4).trans rfl
      have hfz14_0 := blk_frozen BK1390.out 0
      have hfz14_1 := blk_frozen BK1390.out 1
      have hfz14_2 := blk_frozen BK1390.out 2
      have hfz14_3 := blk_frozen BK1390.out 3
      have hfz14_4 := blk_frozen BK1390.out 4
      go_wp2_with (first | ((with_reducible refine gate_callee (f := 120) rfl ?_); refine goesL_ (some 9) rfl rfl Try.func120 (by kernel_rfl) rfl #[.agg #[.int .i64 a0_0, .int .i64 a0_1, .string a0_2, .slice A0_3 l0_3.length c0_3, .slice A0_4 l0_4.length c0_4], .string (⟨#[]⟩ : ByteArray)] rfl (by (try simp only [List.map_toArray, List.map_cons, List.map_nil]); first | done | rfl | (simp only [List.length_drop, List.length_take]; rfl)) ?_; (with_reducible refine (spec_l5Write.calls k a0_0 a0_1 a0_2 _ _ l0_3 _ _ l0_4 (⟨#[]⟩ : ByteArray) t1393 _ ?side1 ?side2 ?side3 ?side4 A13.out).mono ?_); (case side1 => repeat (first | exact (Kd.C_below HR0_3.out HB.out) | (with_reducible refine Kd.C_alloc ?_ _) | (with_reducible refine Kd.C_drewN ?_ _) | (with_reducible refine Kd.C_drew ?_))); (case side2 => exact HC0_3.out); (case side3 => repeat (first | exact (Kd.C_below HR0_4.out HB.out) | (with_reducible refine Kd.C_alloc ?_ _) | (with_reducible refine Kd.C_drewN ?_ _) | (with_reducible refine Kd.C_drew ?_))); (case side4 => exact HC0_4.out); rintro e w15 ⟨rfl, hb⟩; refine ⟨_, rfl, ?_⟩; have n0_ := Aside0.mk (blk_below (g := gb1390) (o := .cells #[.int .i64 a0_0, .int .i64 a0_1, .string a0_2, .slice A0_3 l0_3.length c0_3, .slice A0_4 l0_4.length c0_4] 25 (0, 0)) (by (with_reducible repeat (first | refine blk_drewN ?_ _ | refine blk_drew ?_ | refine blk_alloc ?_ _)); exact BK1390.out) hb); have n1_ := Aside0.mk (below_step (by repeat (first | (with_reducible first | exact HB.out | apply below_alloc | apply pw_below_drewN | apply below_drew1 | refine below_set ?_ GE1390.out) | exact HB.out)) hb); clear BK1390; clear HB; have BK1390 := n0_; have HB := n1_; clear n0_ n1_; (try clear hb); (try clear hb2); (try clear hk); (try clear hi)))
      go_ret
      exact ⟨by first | rfl | (simp [errW_none, errW_some] <;> rfl) | (simp [*, errW_none, errW_some] <;> rfl), by repeat (first | (with_reducible first | exact HB.out | apply below_alloc | apply pw_below_drewN | apply below_drew1 | refine below_set ?_ GE1390.out) | exact HB.out)⟩
    · replace c12 := Bool.eq_false_iff.mpr c12
      subst c12
      have H1 : ((spec_Inline.f k a0_0 a0_1 a0_2 l0_3 l0_4).bind fun t1394 => (if t1394.size + 1 ≤ 9223372036854775807 then (some (t1394 ++ (⟨#[10]⟩ : ByteArray))) else (none))) = some r := by rw [if_neg (show ¬ (false = true) by decide)] at H; exact H
      clear H
      have H := H1
      clear H1
      replace H := Option.bind_eq_some_iff.mp H
      obtain ⟨t1394, A160, H⟩ := H
      replace H : (if t1394.size + 1 ≤ 9223372036854775807 then (some (t1394 ++ (⟨#[10]⟩ : ByteArray))) else (none)) = some r := H
      have A16 := Aside0.mk A160
      clear A160
      by_cases c17 : t1394.size + 1 ≤ 9223372036854775807
      · rw [if_pos c17] at H
        have c17b0 := eq_true c17
        have c17b1 : decide (t1394.size + 1 ≤ 9223372036854775807) = true := decide_eq_true c17
        try have c17b2 : (9223372036854775807 < t1394.size + 1) = False := eq_false (Nat.not_lt.2 c17)
        obtain rfl := Option.some.inj H
        have hcz18_0 : w11.cell? ⟨gb1390, 0, none⟩ = some (.int .i64 a0_0) := (blk_cell BK1390.out 0).trans rfl
        have hcz18_1 : w11.cell? ⟨gb1390, 1, none⟩ = some (.int .i64 a0_1) := (blk_cell BK1390.out 1).trans rfl
        have hcz18_2 : w11.cell? ⟨gb1390, 2, none⟩ = some (.string a0_2) := (blk_cell BK1390.out 2).trans rfl
        have hcz18_3 : w11.cell? ⟨gb1390, 3, none⟩ = some (.slice A0_3 l0_3.length c0_3) := (blk_cell BK1390.out 3).trans rfl
        have hcz18_4 : w11.cell? ⟨gb1390, 4, none⟩ = some (.slice A0_4 l0_4.length c0_4) := (blk_cell BK1390.out 4).trans rfl
        have hfz18_0 := blk_frozen BK1390.out 0
        have hfz18_1 := blk_frozen BK1390.out 1
        have hfz18_2 := blk_frozen BK1390.out 2
        have hfz18_3 := blk_frozen BK1390.out 3
        have hfz18_4 := blk_frozen BK1390.out 4
        go_wp2_with (first | ((with_reducible refine gate_callee (f := 60) rfl ?_); refine goesL_ (some 11) rfl rfl Try.func60 (by kernel_rfl) rfl #[.agg #[.int .i64 a0_0, .int .i64 a0_1, .string a0_2, .slice A0_3 l0_3.length c0_3, .slice A0_4 l0_4.length c0_4]] rfl (by (try simp only [List.map_toArray, List.map_cons, List.map_nil]); first | done | rfl | (simp only [List.length_drop, List.length_take]; rfl)) ?_; (with_reducible refine (spec_Inline.calls k a0_0 a0_1 a0_2 _ _ l0_3 _ _ l0_4 t1394 _ ?side1 ?side2 ?side3 ?side4 A16.out).mono ?_); (case side1 => repeat (first | exact (Kd.C_below HR0_3.out HB.out) | (with_reducible refine Kd.C_alloc ?_ _) | (with_reducible refine Kd.C_drewN ?_ _) | (with_reducible refine Kd.C_drew ?_))); (case side2 => exact HC0_3.out); (case side3 => repeat (first | exact (Kd.C_below HR0_4.out HB.out) | (with_reducible refine Kd.C_alloc ?_ _) | (with_reducible refine Kd.C_drewN ?_ _) | (with_reducible refine Kd.C_drew ?_))); (case side4 => exact HC0_4.out); rintro e w19 ⟨rfl, hb⟩; refine ⟨_, rfl, ?_⟩; have n0_ := Aside0.mk (blk_below (g := gb1390) (o := .cells #[.int .i64 a0_0, .int .i64 a0_1, .string a0_2, .slice A0_3 l0_3.length c0_3, .slice A0_4 l0_4.length c0_4] 25 (0, 0)) (by (with_reducible repeat (first | refine blk_drewN ?_ _ | refine blk_drew ?_ | refine blk_alloc ?_ _)); exact BK1390.out) hb); have n1_ := Aside0.mk (below_step (by repeat (first | (with_reducible first | exact HB.out | apply below_alloc | apply pw_below_drewN | apply below_drew1 | refine below_set ?_ GE1390.out) | exact HB.out)) hb); clear BK1390; clear HB; have BK1390 := n0_; have HB := n1_; clear n0_ n1_; (try clear hb); (try clear hb2); (try clear hk); (try clear hi)))
        go_ret
        exact ⟨by first | rfl | (simp [errW_none, errW_some] <;> rfl) | (simp [*, errW_none, errW_some] <;> rfl), by repeat (first | (with_reducible first | exact HB.out | apply below_alloc | apply pw_below_drewN | apply below_drew1 | refine below_set ?_ GE1390.out) | exact HB.out)⟩
      · rw [if_neg c17] at H
        exact absurd H (by simp)
  · replace c7 := Bool.eq_false_iff.mpr c7
    subst c7
    have H1 : (some (⟨#[]⟩ : ByteArray)) = some r := by rw [if_neg (show ¬ (false = true) by decide)] at H; exact H
    clear H
    have H := H1
    clear H1
    obtain rfl := Option.some.inj H
    go_wp2
    go_ret
    exact ⟨by first | rfl | (simp [errW_none, errW_some] <;> rfl) | (simp [*, errW_none, errW_some] <;> rfl), by repeat (first | (with_reducible first | exact HB.out | apply below_alloc | apply pw_below_drewN | apply below_drew1 | refine below_set ?_ GE1390.out) | exact HB.out)⟩

/-! ### strings_Repeat: function 147 -/
def strings_Repeat.f (a0 : ByteArray) (a1 : Int) : Option ByteArray := if 0 ≤ a1 then (if a0.size * a1.toNat ≤ 140737488355328 ∧ a1.toNat ≤ 9223372036854775807 then some ⟨(Lib.repeatL a0.data.toList a1.toNat).toArray⟩ else none) else none
theorem strings_Repeat.calls (a0 : ByteArray) (a1 : Int) (r : ByteArray) (w : World) (h : strings_Repeat.f a0 a1 = some r) :
    Calls Try.prog 147 #[.string a0, .int .i64 a1] w fun e w' => e = .returned (.string r) ∧ Below w.heap.size w w' := by
  unfold strings_Repeat.f at h
  split at h
  · rename_i h1
    split at h
    · rename_i h2
      obtain rfl := Option.some.inj h
      obtain ⟨n, rfl⟩ : ∃ n : Nat, a1 = n := ⟨a1.toNat, by omega⟩
      rw [Int.toNat_natCast] at h2 ⊢
      exact Try.strings_Repeat a0 n w h2.2 h2.1
    · cases h
  · cases h

end Go.Proofs.Ytnbnpgjgibcmpaa.P
