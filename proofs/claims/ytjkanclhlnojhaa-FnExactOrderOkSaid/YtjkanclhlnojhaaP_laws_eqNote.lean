-- Made by drive.py (a program of this session) over the kit's print; not written line by line by a hand.
import Derived.Test.YtjkanclhlnojhaaP0
import Derived.Test.YtjkanclhlnojhaaP_laws_szMetricS
import Derived.Test.YtjkanclhlnojhaaP_laws_szNote
namespace Go.Proofs.Ytjkanclhlnojhaa.P
open Go.RowKit Go.Proofs.YtjkanclhlnojhaaW.PrintWords Go.Proofs.YtjkanclhlnojhaaW.PrintLast Go.Proofs.YtjkanclhlnojhaaW.PrintMore
attribute [local go_sem] max2_int min2_int max_two min_two max_three min_three max_four min_four   -- for this text's walks alone
set_option linter.unusedVariables false
set_option linter.unusedSimpArgs false

/-! ### laws_eqNote: function 116 -/
def laws_eqNote.f (a0_0 : ByteArray) (a0_1 : ByteArray) (a1_0 : ByteArray) (a1_1 : ByteArray) : Option (Bool) := if a0_0.toList = a1_0.toList then (if a0_1.toList = a1_1.toList then (some true) else (some false)) else (some false)
set_option maxHeartbeats 8000000 in
set_option maxRecDepth 100000 in
theorem laws_eqNote.calls (a0_0 : ByteArray) (a0_1 : ByteArray) (a1_0 : ByteArray) (a1_1 : ByteArray) (r : Bool) (w : World) (h : laws_eqNote.f a0_0 a0_1 a1_0 a1_1 = some r) :
    Calls Try.prog 116 #[.agg #[.string a0_0, .string a0_1], .agg #[.string a1_0, .string a1_1]] w fun e w' => e = .returned (.bool r) ∧ Below w.heap.size w w' := by
  have hu94 := Try.underlying94
  have HB := Aside0.mk (Below.refl w.heap.size w)
  have H : (if a0_0.toList = a1_0.toList then (if a0_1.toList = a1_1.toList then (some true) else (some false)) else (some false)) = some r := h
  clear h
  have HC3 := Aside0.mk H
  clear H
  go_enter Try.func116, Try.ntmps116
  go_upto_if 9 with (first | ((with_reducible refine gate_dst (N := 2) rfl ?_); refine box_event ?hg (N := 2) ?hd (cs := #[.string a0_0, .string a0_1]) (t := 94) ?hr ?_; (case hd => rfl); (case hg => rfl); (case hr => first | (go_simp; done) | (go_simp; rfl)); intro gb486 hg w4 hbox hb; have n0_ := Aside0.mk (below_step (by repeat (first | (with_reducible first | exact HB.out | apply below_alloc | apply pw_below_drewN | apply below_drew1) | exact HB.out)) hb); have n1_ := Aside0.mk (hbox); have n2_ := Aside0.mk ((by rw [hg]; exact (below_size (by repeat (first | (with_reducible first | exact HB.out | apply below_alloc | apply pw_below_drewN | apply below_drew1) | exact HB.out))) : w.heap.size ≤ gb486)); have n3_ := Aside0.mk ((by rw [hg]; exact (below_size (by repeat (first | (with_reducible first | exact HB.out | apply below_alloc | apply pw_below_drewN | apply below_drew1) | exact HB.out))) : w.heap.size ≤ gb486)); clear HB; have HB := n0_; have BK486 := n1_; have GW486 := n2_; have GE486 := n3_; clear n0_ n1_ n2_ n3_; clear hb hbox hg) | ((with_reducible refine gate_dst (N := 3) rfl ?_); refine box_event ?hg (N := 3) ?hd (cs := #[.string a1_0, .string a1_1]) (t := 94) ?hr ?_; (case hd => rfl); (case hg => rfl); (case hr => first | (go_simp; done) | (go_simp; rfl)); intro gb487 hg w5 hbox hb; have n0_ := Aside0.mk (blk_below (g := gb486) (o := .cells #[.string a0_0, .string a0_1] 94 (0, 0)) (by (with_reducible repeat (first | refine blk_drewN ?_ _ | refine blk_drew ?_ | refine blk_alloc ?_ _)); exact BK486.out) hb); have n1_ := Aside0.mk (below_step (by repeat (first | (with_reducible first | exact HB.out | apply below_alloc | apply pw_below_drewN | apply below_drew1 | refine below_set ?_ GE486.out) | exact HB.out)) hb); have n2_ := Aside0.mk (hbox); have n3_ := Aside0.mk ((by rw [hg]; exact (below_size (by repeat (first | (with_reducible first | exact HB.out | apply below_alloc | apply pw_below_drewN | apply below_drew1 | refine below_set ?_ GE486.out) | exact HB.out))) : w.heap.size ≤ gb487)); have n4_ := Aside0.mk ((by rw [hg]; exact (below_size (by repeat (first | (with_reducible first | exact HB.out | apply below_alloc | apply pw_below_drewN | apply below_drew1 | refine below_set ?_ GE486.out) | exact HB.out))) : w.heap.size ≤ gb487)); have n5_ := Aside0.mk ((by rw [hg]; exact Nat.ne_of_lt (blk_lt (g := gb486) (o := .cells #[.string a0_0, .string a0_1] 94 (0, 0)) (by (with_reducible repeat (first | refine blk_drewN ?_ _ | refine blk_drew ?_ | refine blk_alloc ?_ _)); exact BK486.out)) : gb486 ≠ gb487)); have n6_ := Aside0.mk ((by rw [hg]; exact Nat.ne_of_gt (blk_lt (g := gb486) (o := .cells #[.string a0_0, .string a0_1] 94 (0, 0)) (by (with_reducible repeat (first | refine blk_drewN ?_ _ | refine blk_drew ?_ | refine blk_alloc ?_ _)); exact BK486.out)) : gb487 ≠ gb486)); clear BK486; clear HB; have BK486 := n0_; have HB := n1_; have BK487 := n2_; have GW487 := n3_; have GE487 := n4_; have NB486_487 := n5_; have NB487_486 := n6_; clear n0_ n1_ n2_ n3_ n4_ n5_ n6_; clear hb hbox hg; have hnb6 := NB486_487.out; have hnc6 := NB487_486.out; have hcz7_0 : w5.cell? ⟨gb486, 0, none⟩ = some (.string a0_0) := (blk_cell BK486.out 0).trans rfl; have hcz7_1 : w5.cell? ⟨gb486, 1, none⟩ = some (.string a0_1) := (blk_cell BK486.out 1).trans rfl; have hfz7_0 := blk_frozen BK486.out 0; have hfz7_1 := blk_frozen BK486.out 1; have hcz8_0 : w5.cell? ⟨gb487, 0, none⟩ = some (.string a1_0) := (blk_cell BK487.out 0).trans rfl; have hcz8_1 : w5.cell? ⟨gb487, 1, none⟩ = some (.string a1_1) := (blk_cell BK487.out 1).trans rfl; have hfz8_0 := blk_frozen BK487.out 0; have hfz8_1 := blk_frozen BK487.out 1))
  (try simp only [Act.put, List.setIfInBounds_toArray, List.set_cons_zero, List.set_cons_succ])
  have H := HC3.out
  clear HC3
  by_cases c9 : a0_0.toList = a1_0.toList
  · rw [if_pos c9] at H
    have c9b0 : (a0_0.toList == a1_0.toList) = true := beq_iff_eq.mpr c9
    have c9b1 : (a0_0.toList != a1_0.toList) = false := bne_eq_false_iff_eq.mpr c9
    clear c9
    (first | rw [c9b0] | rw [c9b1] | (simp only [i64_w, i32_w]; rw [c9b0]) | skip)
    by_cases c10 : a0_1.toList = a1_1.toList
    · rw [if_pos c10] at H
      have c10b0 : (a0_1.toList == a1_1.toList) = true := beq_iff_eq.mpr c10
      have c10b1 : (a0_1.toList != a1_1.toList) = false := bne_eq_false_iff_eq.mpr c10
      clear c10
      obtain rfl := Option.some.inj H
      have hnb11 := NB486_487.out
      have hnc11 := NB487_486.out
      have hcz12_0 : w5.cell? ⟨gb486, 0, none⟩ = some (.string a0_0) := (blk_cell BK486.out 0).trans rfl
      have hcz12_1 : w5.cell? ⟨gb486, 1, none⟩ = some (.string a0_1) := (blk_cell BK486.out 1).trans rfl
      have hfz12_0 := blk_frozen BK486.out 0
      have hfz12_1 := blk_frozen BK486.out 1
      have hcz13_0 : w5.cell? ⟨gb487, 0, none⟩ = some (.string a1_0) := (blk_cell BK487.out 0).trans rfl
      have hcz13_1 : w5.cell? ⟨gb487, 1, none⟩ = some (.string a1_1) := (blk_cell BK487.out 1).trans rfl
      have hfz13_0 := blk_frozen BK487.out 0
      have hfz13_1 := blk_frozen BK487.out 1
      go_wp2
      go_ret
      exact ⟨by first | rfl | (simp [errW_none, errW_some] <;> rfl) | (simp [*, errW_none, errW_some] <;> rfl), by repeat (first | (with_reducible first | exact HB.out | apply below_alloc | apply pw_below_drewN | apply below_drew1 | refine below_set ?_ GE486.out | refine below_set ?_ GE487.out) | exact HB.out)⟩
    · rw [if_neg c10] at H
      have c10b0 : (a0_1.toList == a1_1.toList) = false := beq_eq_false_iff_ne.mpr c10
      have c10b1 : (a0_1.toList != a1_1.toList) = true := bne_iff_ne.mpr c10
      obtain rfl := Option.some.inj H
      have hnb14 := NB486_487.out
      have hnc14 := NB487_486.out
      have hcz15_0 : w5.cell? ⟨gb486, 0, none⟩ = some (.string a0_0) := (blk_cell BK486.out 0).trans rfl
      have hcz15_1 : w5.cell? ⟨gb486, 1, none⟩ = some (.string a0_1) := (blk_cell BK486.out 1).trans rfl
      have hfz15_0 := blk_frozen BK486.out 0
      have hfz15_1 := blk_frozen BK486.out 1
      have hcz16_0 : w5.cell? ⟨gb487, 0, none⟩ = some (.string a1_0) := (blk_cell BK487.out 0).trans rfl
      have hcz16_1 : w5.cell? ⟨gb487, 1, none⟩ = some (.string a1_1) := (blk_cell BK487.out 1).trans rfl
      have hfz16_0 := blk_frozen BK487.out 0
      have hfz16_1 := blk_frozen BK487.out 1
      go_wp2
      go_ret
      exact ⟨by first | rfl | (simp [errW_none, errW_some] <;> rfl) | (simp [*, errW_none, errW_some] <;> rfl), by repeat (first | (with_reducible first | exact HB.out | apply below_alloc | apply pw_below_drewN | apply below_drew1 | refine below_set ?_ GE486.out | refine below_set ?_ GE487.out) | exact HB.out)⟩
  · rw [if_neg c9] at H
    have c9b0 : (a0_0.toList == a1_0.toList) = false := beq_eq_false_iff_ne.mpr c9
    have c9b1 : (a0_0.toList != a1_0.toList) = true := bne_iff_ne.mpr c9
    (first | rw [c9b0] | rw [c9b1] | (simp only [i64_w, i32_w]; rw [c9b0]) | skip)
    obtain rfl := Option.some.inj H
    go_wp2
    go_ret
    exact ⟨by first | rfl | (simp [errW_none, errW_some] <;> rfl) | (simp [*, errW_none, errW_some] <;> rfl), by repeat (first | (with_reducible first | exact HB.out | apply below_alloc | apply pw_below_drewN | apply below_drew1 | refine below_set ?_ GE486.out | refine below_set ?_ GE487.out) | exact HB.out)⟩

/-! ### laws_eqNoteS: function 102 -/
def laws_eqNoteS.l0 : Nat → List (S94) → List (S94) → Int → Option (Bool)
  | 0, _, _, _ => none
  | k + 1, x0, x1, x5 => if x5 < (x0.length : Int) then (if 0 ≤ x5 then (if x5 < (x1.length : Int) then ((laws_eqNote.f ((rd_T94 x0 x5).f0) ((rd_T94 x0 x5).f1) ((rd_T94 x1 x5).f0) ((rd_T94 x1 x5).f1)).bind fun t490 => (if t490 = true then (laws_eqNoteS.l0 k x0 x1 (wrap64 (x5 + 1))) else (some false))) else (none)) else (none)) else (some true)
def laws_eqNoteS.f (k : Nat) (l0 : List (S94)) (l1 : List (S94)) : Option (Bool) := if (l0.length : Int) = (l1.length : Int) then (laws_eqNoteS.l0 k l0 l1 0) else (some false)
theorem laws_eqNoteS.mono_l : ∀ k, (∀ y0 y1 y2, LeO (laws_eqNoteS.l0 k y0 y1 y2) (laws_eqNoteS.l0 (k + 1) y0 y1 y2))
  | 0 => fun _ _ _ r h => by simp [laws_eqNoteS.l0] at h
  | k + 1 => by
    have ih0 := laws_eqNoteS.mono_l k
    · intro y0 y1 y2
      unfold laws_eqNoteS.l0
      repeat' first
      | (with_reducible exact ih0 _ _ _)
      | (with_reducible exact LeO.refl _)
      | (with_reducible exact LeO.none _)
      | (with_reducible refine LeO.ite ?_ ?_)
      | (with_reducible refine LeO.bind ?_ (fun _ => ?_))
      | exact ih0 _ _ _
      | exact LeO.none _
      | refine LeO.ite ?_ ?_
      | refine LeO.bind ?_ (fun _ => ?_)
theorem laws_eqNoteS.mono : ∀ a0 a1 k, LeO (laws_eqNoteS.f k a0 a1) (laws_eqNoteS.f (k + 1) a0 a1) := by
  intro a0 a1 k
  have ih0 := laws_eqNoteS.mono_l k
  unfold laws_eqNoteS.f
  repeat' first
      | (with_reducible exact ih0 _ _ _)
      | (with_reducible exact LeO.refl _)
      | (with_reducible exact LeO.none _)
      | (with_reducible refine LeO.ite ?_ ?_)
      | (with_reducible refine LeO.bind ?_ (fun _ => ?_))
      | exact ih0 _ _ _
      | exact LeO.none _
      | refine LeO.ite ?_ ?_
      | refine LeO.bind ?_ (fun _ => ?_)
def laws_eqNoteS.T6 : Bool × List (List Nat × List Nat) := (true, [([], []), ([], []), ([0, 1], [0, 1]), ([2], [2]), ([], []), ([], []), ([4, 5], [4, 5]), ([6], [6]), ([3, 7], [3, 7]), ([8], [8])])
def laws_eqNoteS.B6 : List Nat := [0, 0, 3, 7, 0, 0, 48, 112, 255, 511]
theorem laws_eqNoteS.tab6 : rtab .any (opsOf Try.f102 6) = laws_eqNoteS.T6 := by kernel_rfl
theorem laws_eqNoteS.bits6 : waitsOk laws_eqNoteS.T6.2 laws_eqNoteS.B6 = true := by kernel_rfl
set_option maxHeartbeats 8000000 in
set_option maxRecDepth 100000 in
theorem laws_eqNoteS.calls (k : Nat) (A0 : Option Addr) (c0 : Nat) (l0 : List (S94)) (A1 : Option Addr) (c1 : Nat) (l1 : List (S94)) (r : Bool) (w : World) (hr0 : Kd.C k94 w A0 l0.length l0) (hc0 : l0.length ≤ c0) (hr1 : Kd.C k94 w A1 l1.length l1) (hc1 : l1.length ≤ c1) (h : laws_eqNoteS.f k l0 l1 = some r) :
    Calls Try.prog 102 #[.slice A0 l0.length c0, .slice A1 l1.length c1] w fun e w' => e = .returned (.bool r) ∧ Below w.heap.size w w' := by
  have hu94 := Try.underlying94
  have HR0 := Aside0.mk hr0
  have HC0 := Aside0.mk hc0
  clear hr0 hc0
  have HR1 := Aside0.mk hr1
  have HC1 := Aside0.mk hc1
  clear hr1 hc1
  have HB := Aside0.mk (Below.refl w.heap.size w)
  have H : (if (l0.length : Int) = (l1.length : Int) then (laws_eqNoteS.l0 k l0 l1 0) else (some false)) = some r := h
  clear h
  by_cases c3 : (l0.length : Int) = (l1.length : Int)
  · rw [if_pos c3] at H
    have c3b0 : ((l0.length : Int) == (l1.length : Int)) = true := beq_iff_eq.mpr c3
    have c3b1 : ((l0.length : Int) != (l1.length : Int)) = false := bne_eq_false_iff_eq.mpr c3
    have c3b2 : (l0.length == l1.length) = true := by first | simpa using c3 | (simp at c3 ⊢; omega)
    clear c3
    have H' := Aside0.mk H
    clear H
    go_enter Try.func102, Try.ntmps102
    go_wp2
    go_loopg [5] k (fun kq v5 w' => ∃ (x5_1 : Int), v5 = .int .i64 x5_1 ∧ Aside0 (laws_eqNoteS.l0 kq l0 l1 x5_1 = some r) ∧ Aside0 (kq ≤ k) ∧ Aside0 (Below w.heap.size w w'))
    case atStart => exact ⟨(0), (by first | rfl | (simp; done) | (simp [*]; done)), H', ⟨Nat.le_refl _⟩, ⟨by repeat (first | (with_reducible first | exact HB.out | apply below_alloc | apply pw_below_drewN | apply below_drew1) | exact HB.out)⟩⟩
    case round =>
      clear H'
      try clear c1
      try clear p2
      try clear c3
      try clear c3b0
      try clear c3b1
      try clear c3b2
      obtain ⟨x5_1, rfl, HA, HK1, HB⟩ := hrel
      cases gk with
      | zero => exact absurd HA.out (by simp [laws_eqNoteS.l0])
      | succ k1 =>
        have H := HA.out
        clear HA
        simp only [laws_eqNoteS.l0] at H
        by_cases c4 : x5_1 < (l0.length : Int)
        · rw [if_pos c4] at H
          have c4b0 : decide (x5_1 < (l0.length : Int)) = true := decide_eq_true c4
          clear c4
          by_cases c5 : 0 ≤ x5_1
          · rw [if_pos c5] at H
            have c5b0 : decide (0 ≤ x5_1) = true := decide_eq_true c5
            clear c5
            by_cases c6 : x5_1 < (l1.length : Int)
            · rw [if_pos c6] at H
              have c6b0 : decide (x5_1 < (l1.length : Int)) = true := decide_eq_true c6
              clear c6
              replace H := Option.bind_eq_some_iff.mp H
              obtain ⟨t490, A70, H⟩ := H
              replace H : (if t490 = true then (laws_eqNoteS.l0 k1 l0 l1 (wrap64 (x5_1 + 1))) else (some false)) = some r := H
              have A7 := Aside0.mk A70
              clear A70
              have HC8 := Aside0.mk H
              clear H
              try go_wp2
              have n0_ := Aside0.mk (below_drew1 HB.out)
              clear HB
              have HB := n0_
              clear n0_
              have p488 : 0 ≤ (x5_1 : Int) := of_decide_eq_true (by first | (with_reducible assumption) | assumption)
              have q488 : x5_1 < (l0.length : Int) := of_decide_eq_true (by first | (with_reducible assumption) | assumption)
              obtain ⟨ad488, e488, hx488_0, hx488_1⟩ := at_T94 HR0.out x5_1 p488 q488
              have hw488_1 := hx488_1
              have hw488_0 := hx488_0
              cases e488
              replace hx488_0 := (HB.out.cell (World.block_lt_of_cell? w _ hx488_0)).trans hx488_0
              replace hx488_1 := (HB.out.cell (World.block_lt_of_cell? w _ hx488_1)).trans hx488_1
              replace p488 := eq_true p488
              replace q488 := eq_true q488
              have p489 : 0 ≤ (x5_1 : Int) := of_decide_eq_true (by first | (with_reducible assumption) | assumption)
              have q489 : x5_1 < (l1.length : Int) := of_decide_eq_true (by first | (with_reducible assumption) | assumption)
              obtain ⟨ad489, e489, hx489_0, hx489_1⟩ := at_T94 HR1.out x5_1 p489 q489
              have hw489_1 := hx489_1
              have hw489_0 := hx489_0
              cases e489
              replace hx489_0 := (HB.out.cell (World.block_lt_of_cell? w _ hx489_0)).trans hx489_0
              replace hx489_1 := (HB.out.cell (World.block_lt_of_cell? w _ hx489_1)).trans hx489_1
              replace p489 := eq_true p489
              replace q489 := eq_true q489
              refine start_ (n := 10) (S := fun w' => w'.cell? (ad488.add ((x5_1).toNat * 2)) = some (.string ((rd_T94 l0 x5_1).f0)) ∧ w'.cell? ⟨(ad488.add ((x5_1).toNat * 2)).block, (ad488.add ((x5_1).toNat * 2)).off + 1, none⟩ = some (.string ((rd_T94 l0 x5_1).f1)) ∧ w'.cell? (ad489.add ((x5_1).toNat * 2)) = some (.string ((rd_T94 l1 x5_1).f0)) ∧ w'.cell? ⟨(ad489.add ((x5_1).toNat * 2)).block, (ad489.add ((x5_1).toNat * 2)).off + 1, none⟩ = some (.string ((rd_T94 l1 x5_1).f1))) (ds := []) #[false, false, false, false, false, false, false, false, false, false] (by kernel_rfl) rfl rfl ⟨((HB.out.cell (World.block_lt_of_cell? w _ hw488_0)).trans hw488_0), ((HB.out.cell (World.block_lt_of_cell? w _ hw488_1)).trans hw488_1), ((HB.out.cell (World.block_lt_of_cell? w _ hw489_0)).trans hw489_0), ((HB.out.cell (World.block_lt_of_cell? w _ hw489_1)).trans hw489_1)⟩ (fun hHeld => ?_); refine with_tabW laws_eqNoteS.tab6 laws_eqNoteS.bits6 (fun HT_ HW_ => ?_)
              generalize wr.drew = w9 at HB hx488_0 hx488_1 hx489_0 hx489_1 hHeld ⊢
              refine pure_ (i := 0) (N := some 17) (v := _) (a' := _) (bs_ 10 1) rfl rfl (any_of HT_.out (by kernel_rfl)) (fun _ _ _ h => h) (Or.inl ⟨by rfl, by intro w'; go_simp; first | with_reducible rfl | rfl⟩) (by simp only [Act.put, List.setIfInBounds_toArray, List.set_cons_zero, List.set_cons_succ, i64_w, i32_w]; rfl) ?_
              refine pure_ (i := 1) (N := some 18) (v := _) (a' := _) (bs_ 10 3) rfl rfl (any_of HT_.out (by kernel_rfl)) (fun _ _ _ h => h) (Or.inl ⟨by rfl, by intro w'; go_simp; first | with_reducible rfl | rfl⟩) (by simp only [Act.put, List.setIfInBounds_toArray, List.set_cons_zero, List.set_cons_succ, i64_w, i32_w]; rfl) ?_
              refine pure_ (i := 2) (N := some 19) (v := _) (a' := _) (bs_ 10 7) rfl rfl (any_of HT_.out (by kernel_rfl)) (fun _ _ _ h => h) (Or.inl ⟨by rfl, by intro w'; go_simp; first | with_reducible rfl | rfl⟩) (by simp only [Act.put, List.setIfInBounds_toArray, List.set_cons_zero, List.set_cons_succ, i64_w, i32_w]; rfl) ?_
              refine pure_ (i := 4) (N := some 21) (v := _) (a' := _) (bs_ 10 23) rfl rfl (any_of HT_.out (by kernel_rfl)) (fun _ _ _ h => h) (Or.inl ⟨by rfl, by intro w'; go_simp; first | with_reducible rfl | rfl⟩) (by simp only [Act.put, List.setIfInBounds_toArray, List.set_cons_zero, List.set_cons_succ, i64_w, i32_w]; rfl) ?_
              refine pure_ (i := 5) (N := some 22) (v := _) (a' := _) (bs_ 10 55) rfl rfl (any_of HT_.out (by kernel_rfl)) (fun _ _ _ h => h) (Or.inl ⟨by rfl, by intro w'; go_simp; first | with_reducible rfl | rfl⟩) (by simp only [Act.put, List.setIfInBounds_toArray, List.set_cons_zero, List.set_cons_succ, i64_w, i32_w]; rfl) ?_
              refine pure_ (i := 6) (N := some 23) (v := _) (a' := _) (bs_ 10 119) rfl rfl (any_of HT_.out (by kernel_rfl)) (fun _ _ _ h => h) (Or.inl ⟨by rfl, by intro w'; go_simp; first | with_reducible rfl | rfl⟩) (by simp only [Act.put, List.setIfInBounds_toArray, List.set_cons_zero, List.set_cons_succ, i64_w, i32_w]; rfl) ?_
              refine take_ (i := 3) (N := some 20) (v := ?_) (a' := ?_) (bs_ 10 127) rfl rfl (take_ofW HT_.out HW_.out (by kernel_rfl)) (fun _ _ _ h => h) (Or.inl ⟨by rfl, ?_⟩) hHeld ?_ ?_
              rotate_left
              · rintro w' ⟨s0, s1, s2, s3⟩
                go_simp
                (first | with_reducible rfl | rfl)
              rotate_left
              · simp only [Act.put, List.setIfInBounds_toArray, List.set_cons_zero, List.set_cons_succ, i64_w, i32_w]
                rfl
              refine take_ (i := 7) (N := some 24) (v := ?_) (a' := ?_) (bs_ 10 255) rfl rfl (take_ofW HT_.out HW_.out (by kernel_rfl)) (fun _ _ _ h => h) (Or.inl ⟨by rfl, ?_⟩) hHeld ?_ ?_
              rotate_left
              · rintro w' ⟨s0, s1, s2, s3⟩
                go_simp
                (first | with_reducible rfl | rfl)
              rotate_left
              · simp only [Act.put, List.setIfInBounds_toArray, List.set_cons_zero, List.set_cons_succ, i64_w, i32_w]
                rfl
              refine one_ (i := 8) (N := some 25) (bs_ 10 511) rfl rfl (one_of HT_.out (by kernel_rfl)) (by decide) (fun K hK => ?_)
              refine goes_ Try.func116 (by kernel_rfl) rfl #[.agg #[.string ((rd_T94 l0 x5_1).f0), .string ((rd_T94 l0 x5_1).f1)], .agg #[.string ((rd_T94 l1 x5_1).f0), .string ((rd_T94 l1 x5_1).f1)]] (by rfl) rfl rfl (by (try simp only [List.map_toArray, List.map_cons, List.map_nil]); first | done | rfl | (simp only [List.length_drop, List.length_take]; rfl)) ?_
              with_reducible refine (laws_eqNote.calls ((rd_T94 l0 x5_1).f0) ((rd_T94 l0 x5_1).f1) ((rd_T94 l1 x5_1).f0) ((rd_T94 l1 x5_1).f1) t490 _ A7.out).mono ?_
              rintro e w10 ⟨rfl, hb⟩
              refine ⟨_, rfl, ?_⟩
              have n0_ := Aside0.mk (below_step (by repeat (first | (with_reducible first | exact HB.out | apply below_alloc | apply pw_below_drewN | apply below_drew1) | exact HB.out)) hb)
              clear HB
              have HB := n0_
              clear n0_
              (try clear hb)
              (try clear hb2)
              (try clear hk)
              (try clear hi)
              refine hK.out _ _ ⟨((HB.out.cell (World.block_lt_of_cell? w _ hw488_0)).trans hw488_0), ((HB.out.cell (World.block_lt_of_cell? w _ hw488_1)).trans hw488_1), ((HB.out.cell (World.block_lt_of_cell? w _ hw489_0)).trans hw489_0), ((HB.out.cell (World.block_lt_of_cell? w _ hw489_1)).trans hw489_1)⟩ (fun hHeld => ?_)
              clear hK K
              refine norm_ (a' := ?_) ?_ ?_
              rotate_left
              · show Act.put _ (some 25) _ = _
                simp only [Act.put, List.setIfInBounds_toArray, List.set_cons_zero, List.set_cons_succ, i64_w, i32_w]
                rfl
              refine pure_ (i := 9) (N := some 26) (v := _) (a' := _) (bs_ 10 1023) rfl rfl (any_of HT_.out (by kernel_rfl)) (fun _ _ _ h => h) (Or.inl ⟨by rfl, by intro w'; go_simp; first | with_reducible rfl | rfl⟩) (by simp only [Act.put, List.setIfInBounds_toArray, List.set_cons_zero, List.set_cons_succ, i64_w, i32_w]; rfl) ?_
              refine done_ (done_of HT_.out (by kernel_rfl)) ?_
              go_upto_if 26 with (fail)
              have H := HC8.out
              clear HC8
              by_cases c11 : t490 = true
              · subst c11
                have H1 : (laws_eqNoteS.l0 k1 l0 l1 (wrap64 (x5_1 + 1))) = some r := by rw [if_pos rfl] at H; exact H
                clear H
                have H := H1
                clear H1
                have H' := Aside0.mk H
                clear H
                go_wp2
                go_roundg k1
                case measure => have := HK1.out; omega
                case rel => exact ⟨(wrap64 (x5_1 + 1)), (by first | rfl | (simp; done) | (simp [*]; done)), H', ⟨by have := HK1.out; omega⟩, ⟨by repeat (first | (with_reducible first | exact HB.out | apply below_alloc | apply pw_below_drewN | apply below_drew1) | exact HB.out)⟩⟩
              · replace c11 := Bool.eq_false_iff.mpr c11
                subst c11
                have H1 : (some false) = some r := by rw [if_neg (show ¬ (false = true) by decide)] at H; exact H
                clear H
                have H := H1
                clear H1
                obtain rfl := Option.some.inj H
                go_wp2
                go_ret
                exact ⟨by first | rfl | (simp [errW_none, errW_some] <;> rfl) | (simp [*, errW_none, errW_some] <;> rfl), by repeat (first | (with_reducible first | exact HB.out | apply below_alloc | apply pw_below_drewN | apply below_drew1) | exact HB.out)⟩
            · rw [if_neg c6] at H
              exact absurd H (by simp)
          · rw [if_neg c5] at H
            exact absurd H (by simp)
        · rw [if_neg c4] at H
          have c4b0 : decide (x5_1 < (l0.length : Int)) = false := decide_eq_false c4
          clear c4
          obtain rfl := Option.some.inj H
          go_wp2
          go_ret
          exact ⟨by first | rfl | (simp [errW_none, errW_some] <;> rfl) | (simp [*, errW_none, errW_some] <;> rfl), by repeat (first | (with_reducible first | exact HB.out | apply below_alloc | apply pw_below_drewN | apply below_drew1) | exact HB.out)⟩
  · rw [if_neg c3] at H
    have c3b0 : ((l0.length : Int) == (l1.length : Int)) = false := beq_eq_false_iff_ne.mpr c3
    have c3b1 : ((l0.length : Int) != (l1.length : Int)) = true := bne_iff_ne.mpr c3
    have c3b2 : (l0.length == l1.length) = false := by first | simpa using c3 | (simp at c3 ⊢; omega)
    obtain rfl := Option.some.inj H
    go_enter Try.func102, Try.ntmps102
    go_wp2
    go_ret
    exact ⟨by first | rfl | (simp [errW_none, errW_some] <;> rfl) | (simp [*, errW_none, errW_some] <;> rfl), by repeat (first | (with_reducible first | exact HB.out | apply below_alloc | apply pw_below_drewN | apply below_drew1) | exact HB.out)⟩

/-! ### laws_eqOrder: function 63 -/
def laws_eqOrder.f (k : Nat) (a0_0 : ByteArray) (a0_1 : ByteArray) (a0_2 : Int) (a0_3 : Int) (l0_4 : List (S35)) (a0_5 : Int) (a0_6 : Int) (a0_7 : Int) (a0_8 : Int) (l0_9 : List (S94)) (a1_0 : ByteArray) (a1_1 : ByteArray) (a1_2 : Int) (a1_3 : Int) (l1_4 : List (S35)) (a1_5 : Int) (a1_6 : Int) (a1_7 : Int) (a1_8 : Int) (l1_9 : List (S94)) : Option (Bool) := if a0_0.toList = a1_0.toList then (if a0_1.toList = a1_1.toList then (if a0_2 = a1_2 then (if a0_3 = a1_3 then ((laws_eqMetricS.f k l0_4 l1_4).bind fun t493 => (if t493 = true then ((laws_eqPace.f a0_5 a0_6 a0_7 a0_8 a1_5 a1_6 a1_7 a1_8).bind fun t494 => (if t494 = true then ((laws_eqNoteS.f k l0_9 l1_9).bind fun t495 => (if t495 = true then (some true) else (some false))) else (some false))) else (some false))) else (some false)) else (some false)) else (some false)) else (some false)
theorem laws_eqOrder.mono : ∀ a0 a1 a2 a3 a4 a5 a6 a7 a8 a9 a10 a11 a12 a13 a14 a15 a16 a17 a18 a19 k, LeO (laws_eqOrder.f k a0 a1 a2 a3 a4 a5 a6 a7 a8 a9 a10 a11 a12 a13 a14 a15 a16 a17 a18 a19) (laws_eqOrder.f (k + 1) a0 a1 a2 a3 a4 a5 a6 a7 a8 a9 a10 a11 a12 a13 a14 a15 a16 a17 a18 a19) := by
  intro a0 a1 a2 a3 a4 a5 a6 a7 a8 a9 a10 a11 a12 a13 a14 a15 a16 a17 a18 a19 k
  unfold laws_eqOrder.f
  repeat' first
      | (with_reducible exact laws_eqMetricS.mono _ _ _)
      | (with_reducible exact laws_eqNoteS.mono _ _ _)
      | (with_reducible exact LeO.refl _)
      | (with_reducible exact LeO.none _)
      | (with_reducible refine LeO.ite ?_ ?_)
      | (with_reducible refine LeO.bind ?_ (fun _ => ?_))
      | exact laws_eqMetricS.mono _ _ _
      | exact laws_eqNoteS.mono _ _ _
      | exact LeO.none _
      | refine LeO.ite ?_ ?_
      | refine LeO.bind ?_ (fun _ => ?_)
set_option maxHeartbeats 8000000 in
set_option maxRecDepth 100000 in
theorem laws_eqOrder.calls (k : Nat) (a0_0 : ByteArray) (a0_1 : ByteArray) (a0_2 : Int) (a0_3 : Int) (A0_4 : Option Addr) (c0_4 : Nat) (l0_4 : List (S35)) (a0_5 : Int) (a0_6 : Int) (a0_7 : Int) (a0_8 : Int) (A0_9 : Option Addr) (c0_9 : Nat) (l0_9 : List (S94)) (a1_0 : ByteArray) (a1_1 : ByteArray) (a1_2 : Int) (a1_3 : Int) (A1_4 : Option Addr) (c1_4 : Nat) (l1_4 : List (S35)) (a1_5 : Int) (a1_6 : Int) (a1_7 : Int) (a1_8 : Int) (A1_9 : Option Addr) (c1_9 : Nat) (l1_9 : List (S94)) (r : Bool) (w : World) (hr0_4 : Kd.C k35 w A0_4 l0_4.length l0_4) (hc0_4 : l0_4.length ≤ c0_4) (hr0_9 : Kd.C k94 w A0_9 l0_9.length l0_9) (hc0_9 : l0_9.length ≤ c0_9) (hr1_4 : Kd.C k35 w A1_4 l1_4.length l1_4) (hc1_4 : l1_4.length ≤ c1_4) (hr1_9 : Kd.C k94 w A1_9 l1_9.length l1_9) (hc1_9 : l1_9.length ≤ c1_9) (h : laws_eqOrder.f k a0_0 a0_1 a0_2 a0_3 l0_4 a0_5 a0_6 a0_7 a0_8 l0_9 a1_0 a1_1 a1_2 a1_3 l1_4 a1_5 a1_6 a1_7 a1_8 l1_9 = some r) :
    Calls Try.prog 63 #[.agg #[.string a0_0, .string a0_1, .int .i64 a0_2, .int .i64 a0_3, .slice A0_4 l0_4.length c0_4, .int .i64 a0_5, .int .i64 a0_6, .int .i64 a0_7, .int .i64 a0_8, .slice A0_9 l0_9.length c0_9], .agg #[.string a1_0, .string a1_1, .int .i64 a1_2, .int .i64 a1_3, .slice A1_4 l1_4.length c1_4, .int .i64 a1_5, .int .i64 a1_6, .int .i64 a1_7, .int .i64 a1_8, .slice A1_9 l1_9.length c1_9]] w fun e w' => e = .returned (.bool r) ∧ Below w.heap.size w w' := by
  have hu65 := Try.underlying65
  have hu25 := Try.underlying25
  have HR0_4 := Aside0.mk hr0_4
  have HC0_4 := Aside0.mk hc0_4
  clear hr0_4 hc0_4
  have HR0_9 := Aside0.mk hr0_9
  have HC0_9 := Aside0.mk hc0_9
  clear hr0_9 hc0_9
  have HR1_4 := Aside0.mk hr1_4
  have HC1_4 := Aside0.mk hc1_4
  clear hr1_4 hc1_4
  have HR1_9 := Aside0.mk hr1_9
  have HC1_9 := Aside0.mk hc1_9
  clear hr1_9 hc1_9
  have HB := Aside0.mk (Below.refl w.heap.size w)
  have H : (if a0_0.toList = a1_0.toList then (if a0_1.toList = a1_1.toList then (if a0_2 = a1_2 then (if a0_3 = a1_3 then ((laws_eqMetricS.f k l0_4 l1_4).bind fun t493 => (if t493 = true then ((laws_eqPace.f a0_5 a0_6 a0_7 a0_8 a1_5 a1_6 a1_7 a1_8).bind fun t494 => (if t494 = true then ((laws_eqNoteS.f k l0_9 l1_9).bind fun t495 => (if t495 = true then (some true) else (some false))) else (some false))) else (some false))) else (some false)) else (some false)) else (some false)) else (some false)) = some r := h
  clear h
  have HC3 := Aside0.mk H
  clear H
  go_enter Try.func63, Try.ntmps63
  go_upto_if 9 with (first | ((with_reducible refine gate_dst (N := 2) rfl ?_); refine box_event ?hg (N := 2) ?hd (cs := #[.string a0_0, .string a0_1, .int .i64 a0_2, .int .i64 a0_3, .slice A0_4 l0_4.length c0_4, .int .i64 a0_5, .int .i64 a0_6, .int .i64 a0_7, .int .i64 a0_8, .slice A0_9 l0_9.length c0_9]) (t := 65) ?hr ?_; (case hd => rfl); (case hg => rfl); (case hr => first | (go_simp; done) | (go_simp; rfl)); intro gb491 hg w4 hbox hb; have n0_ := Aside0.mk (below_step (by repeat (first | (with_reducible first | exact HB.out | apply below_alloc | apply pw_below_drewN | apply below_drew1) | exact HB.out)) hb); have n1_ := Aside0.mk (hbox); have n2_ := Aside0.mk ((by rw [hg]; exact (below_size (by repeat (first | (with_reducible first | exact HB.out | apply below_alloc | apply pw_below_drewN | apply below_drew1) | exact HB.out))) : w.heap.size ≤ gb491)); have n3_ := Aside0.mk ((by rw [hg]; exact (below_size (by repeat (first | (with_reducible first | exact HB.out | apply below_alloc | apply pw_below_drewN | apply below_drew1) | exact HB.out))) : w.heap.size ≤ gb491)); clear HB; have HB := n0_; have BK491 := n1_; have GW491 := n2_; have GE491 := n3_; clear n0_ n1_ n2_ n3_; clear hb hbox hg) | ((with_reducible refine gate_dst (N := 3) rfl ?_); refine box_event ?hg (N := 3) ?hd (cs := #[.string a1_0, .string a1_1, .int .i64 a1_2, .int .i64 a1_3, .slice A1_4 l1_4.length c1_4, .int .i64 a1_5, .int .i64 a1_6, .int .i64 a1_7, .int .i64 a1_8, .slice A1_9 l1_9.length c1_9]) (t := 65) ?hr ?_; (case hd => rfl); (case hg => rfl); (case hr => first | (go_simp; done) | (go_simp; rfl)); intro gb492 hg w5 hbox hb; have n0_ := Aside0.mk (blk_below (g := gb491) (o := .cells #[.string a0_0, .string a0_1, .int .i64 a0_2, .int .i64 a0_3, .slice A0_4 l0_4.length c0_4, .int .i64 a0_5, .int .i64 a0_6, .int .i64 a0_7, .int .i64 a0_8, .slice A0_9 l0_9.length c0_9] 65 (0, 0)) (by (with_reducible repeat (first | refine blk_drewN ?_ _ | refine blk_drew ?_ | refine blk_alloc ?_ _)); exact BK491.out) hb); have n1_ := Aside0.mk (below_step (by repeat (first | (with_reducible first | exact HB.out | apply below_alloc | apply pw_below_drewN | apply below_drew1 | refine below_set ?_ GE491.out) | exact HB.out)) hb); have n2_ := Aside0.mk (hbox); have n3_ := Aside0.mk ((by rw [hg]; exact (below_size (by repeat (first | (with_reducible first | exact HB.out | apply below_alloc | apply pw_below_drewN | apply below_drew1 | refine below_set ?_ GE491.out) | exact HB.out))) : w.heap.size ≤ gb492)); have n4_ := Aside0.mk ((by rw [hg]; exact (below_size (by repeat (first | (with_reducible first | exact HB.out | apply below_alloc | apply pw_below_drewN | apply below_drew1 | refine below_set ?_ GE491.out) | exact HB.out))) : w.heap.size ≤ gb492)); have n5_ := Aside0.mk ((by rw [hg]; exact Nat.ne_of_lt (blk_lt (g := gb491) (o := .cells #[.string a0_0, .string a0_1, .int .i64 a0_2, .int .i64 a0_3, .slice A0_4 l0_4.length c0_4, .int .i64 a0_5, .int .i64 a0_6, .int .i64 a0_7, .int .i64 a0_8, .slice A0_9 l0_9.length c0_9] 65 (0, 0)) (by (with_reducible repeat (first | refine blk_drewN ?_ _ | refine blk_drew ?_ | refine blk_alloc ?_ _)); exact BK491.out)) : gb491 ≠ gb492)); have n6_ := Aside0.mk ((by rw [hg]; exact Nat.ne_of_gt (blk_lt (g := gb491) (o := .cells #[.string a0_0, .string a0_1, .int .i64 a0_2, .int .i64 a0_3, .slice A0_4 l0_4.length c0_4, .int .i64 a0_5, .int .i64 a0_6, .int .i64 a0_7, .int .i64 a0_8, .slice A0_9 l0_9.length c0_9] 65 (0, 0)) (by (with_reducible repeat (first | refine blk_drewN ?_ _ | refine blk_drew ?_ | refine blk_alloc ?_ _)); exact BK491.out)) : gb492 ≠ gb491)); clear BK491; clear HB; have BK491 := n0_; have HB := n1_; have BK492 := n2_; have GW492 := n3_; have GE492 := n4_; have NB491_492 := n5_; have NB492_491 := n6_; clear n0_ n1_ n2_ n3_ n4_ n5_ n6_; clear hb hbox hg; have hnb6 := NB491_492.out; have hnc6 := NB492_491.out; have hcz7_0 : w5.cell? ⟨gb491, 0, none⟩ = some (.string a0_0) := (blk_cell BK491.out 0).trans rfl; have hcz7_1 : w5.cell? ⟨gb491, 1, none⟩ = some (.string a0_1) := (blk_cell BK491.out 1).trans rfl; have hcz7_2 : w5.cell? ⟨gb491, 2, none⟩ = some (.int .i64 a0_2) := (blk_cell BK491.out 2).trans rfl; have hcz7_3 : w5.cell? ⟨gb491, 3, none⟩ = some (.int .i64 a0_3) := (blk_cell BK491.out 3).trans rfl; have hcz7_4 : w5.cell? ⟨gb491, 4, none⟩ = some (.slice A0_4 l0_4.length c0_4) := (blk_cell BK491.out 4).trans rfl; have hcz7_5 : w5.cell? ⟨gb491, 5, none⟩ = some (.int .i64 a0_5) := (blk_cell BK491.out 5).trans rfl; have hcz7_6 : w5.cell? ⟨gb491, 6, none⟩ = some (.int .i64 a0_6) := (blk_cell BK491.out 6).trans rfl; have hcz7_7 : w5.cell? ⟨gb491, 7, none⟩ = some (.int .i64 a0_7) := (blk_cell BK491.out 7).trans rfl; have hcz7_8 : w5.cell? ⟨gb491, 8, none⟩ = some (.int .i64 a0_8) := (blk_cell BK491.out 8).trans rfl; have hcz7_9 : w5.cell? ⟨gb491, 9, none⟩ = some (.slice A0_9 l0_9.length c0_9) := (blk_cell BK491.out 9).trans rfl; have hfz7_0 := blk_frozen BK491.out 0; have hfz7_1 := blk_frozen BK491.out 1; have hfz7_2 := blk_frozen BK491.out 2; have hfz7_3 := blk_frozen BK491.out 3; have hfz7_4 := blk_frozen BK491.out 4; have hfz7_5 := blk_frozen BK491.out 5; have hfz7_6 := blk_frozen BK491.out 6; have hfz7_7 := blk_frozen BK491.out 7; have hfz7_8 := blk_frozen BK491.out 8; have hfz7_9 := blk_frozen BK491.out 9; have hcz8_0 : w5.cell? ⟨gb492, 0, none⟩ = some (.string a1_0) := (blk_cell BK492.out 0).trans rfl; have hcz8_1 : w5.cell? ⟨gb492, 1, none⟩ = some (.string a1_1) := (blk_cell BK492.out 1).trans rfl; have hcz8_2 : w5.cell? ⟨gb492, 2, none⟩ = some (.int .i64 a1_2) := (blk_cell BK492.out 2).trans rfl; have hcz8_3 : w5.cell? ⟨gb492, 3, none⟩ = some (.int .i64 a1_3) := (blk_cell BK492.out 3).trans rfl; have hcz8_4 : w5.cell? ⟨gb492, 4, none⟩ = some (.slice A1_4 l1_4.length c1_4) := (blk_cell BK492.out 4).trans rfl; have hcz8_5 : w5.cell? ⟨gb492, 5, none⟩ = some (.int .i64 a1_5) := (blk_cell BK492.out 5).trans rfl; have hcz8_6 : w5.cell? ⟨gb492, 6, none⟩ = some (.int .i64 a1_6) := (blk_cell BK492.out 6).trans rfl; have hcz8_7 : w5.cell? ⟨gb492, 7, none⟩ = some (.int .i64 a1_7) := (blk_cell BK492.out 7).trans rfl; have hcz8_8 : w5.cell? ⟨gb492, 8, none⟩ = some (.int .i64 a1_8) := (blk_cell BK492.out 8).trans rfl; have hcz8_9 : w5.cell? ⟨gb492, 9, none⟩ = some (.slice A1_9 l1_9.length c1_9) := (blk_cell BK492.out 9).trans rfl; have hfz8_0 := blk_frozen BK492.out 0; have hfz8_1 := blk_frozen BK492.out 1; have hfz8_2 := blk_frozen BK492.out 2; have hfz8_3 := blk_frozen BK492.out 3; have hfz8_4 := blk_frozen BK492.out 4; have hfz8_5 := blk_frozen BK492.out 5; have hfz8_6 := blk_frozen BK492.out 6; have hfz8_7 := blk_frozen BK492.out 7; have hfz8_8 := blk_frozen BK492.out 8; have hfz8_9 := blk_frozen BK492.out 9))
  (try simp only [Act.put, List.setIfInBounds_toArray, List.set_cons_zero, List.set_cons_succ])
  have H := HC3.out
  clear HC3
  by_cases c9 : a0_0.toList = a1_0.toList
  · rw [if_pos c9] at H
    have c9b0 : (a0_0.toList == a1_0.toList) = true := beq_iff_eq.mpr c9
    have c9b1 : (a0_0.toList != a1_0.toList) = false := bne_eq_false_iff_eq.mpr c9
    clear c9
    (first | rw [c9b0] | rw [c9b1] | (simp only [i64_w, i32_w]; rw [c9b0]) | skip)
    by_cases c10 : a0_1.toList = a1_1.toList
    · rw [if_pos c10] at H
      have c10b0 : (a0_1.toList == a1_1.toList) = true := beq_iff_eq.mpr c10
      have c10b1 : (a0_1.toList != a1_1.toList) = false := bne_eq_false_iff_eq.mpr c10
      clear c10
      by_cases c11 : a0_2 = a1_2
      · rw [if_pos c11] at H
        have c11b0 : (a0_2 == a1_2) = true := beq_iff_eq.mpr c11
        have c11b1 : (a0_2 != a1_2) = false := bne_eq_false_iff_eq.mpr c11
        clear c11
        by_cases c12 : a0_3 = a1_3
        · rw [if_pos c12] at H
          have c12b0 : (a0_3 == a1_3) = true := beq_iff_eq.mpr c12
          have c12b1 : (a0_3 != a1_3) = false := bne_eq_false_iff_eq.mpr c12
          clear c12
          replace H := Option.bind_eq_some_iff.mp H
          obtain ⟨t493, A130, H⟩ := H
          replace H : (if t493 = true then ((laws_eqPace.f a0_5 a0_6 a0_7 a0_8 a1_5 a1_6 a1_7 a1_8).bind fun t494 => (if t494 = true then ((laws_eqNoteS.f k l0_9 l1_9).bind fun t495 => (if t495 = true then (some true) else (some false))) else (some false))) else (some false)) = some r := H
          have A13 := Aside0.mk A130
          clear A130
          have HC14 := Aside0.mk H
          clear H
          have hnb15 := NB491_492.out
          have hnc15 := NB492_491.out
          have hcz16_0 : w5.cell? ⟨gb491, 0, none⟩ = some (.string a0_0) := (blk_cell BK491.out 0).trans rfl
          have hcz16_1 : w5.cell? ⟨gb491, 1, none⟩ = some (.string a0_1) := (blk_cell BK491.out 1).trans rfl
          have hcz16_2 : w5.cell? ⟨gb491, 2, none⟩ = some (.int .i64 a0_2) := (blk_cell BK491.out 2).trans rfl
          have hcz16_3 : w5.cell? ⟨gb491, 3, none⟩ = some (.int .i64 a0_3) := (blk_cell BK491.out 3).trans rfl
          have hcz16_4 : w5.cell? ⟨gb491, 4, none⟩ = some (.slice A0_4 l0_4.length c0_4) := (blk_cell BK491.out 4).trans rfl
          have hcz16_5 : w5.cell? ⟨gb491, 5, none⟩ = some (.int .i64 a0_5) := (blk_cell BK491.out 5).trans rfl
          have hcz16_6 : w5.cell? ⟨gb491, 6, none⟩ = some (.int .i64 a0_6) := (blk_cell BK491.out 6).trans rfl
          have hcz16_7 : w5.cell? ⟨gb491, 7, none⟩ = some (.int .i64 a0_7) := (blk_cell BK491.out 7).trans rfl
          have hcz16_8 : w5.cell? ⟨gb491, 8, none⟩ = some (.int .i64 a0_8) := (blk_cell BK491.out 8).trans rfl
          have hcz16_9 : w5.cell? ⟨gb491, 9, none⟩ = some (.slice A0_9 l0_9.length c0_9) := (blk_cell BK491.out 9).trans rfl
          have hfz16_0 := blk_frozen BK491.out 0
          have hfz16_1 := blk_frozen BK491.out 1
          have hfz16_2 := blk_frozen BK491.out 2
          have hfz16_3 := blk_frozen BK491.out 3
          have hfz16_4 := blk_frozen BK491.out 4
          have hfz16_5 := blk_frozen BK491.out 5
          have hfz16_6 := blk_frozen BK491.out 6
          have hfz16_7 := blk_frozen BK491.out 7
          have hfz16_8 := blk_frozen BK491.out 8
          have hfz16_9 := blk_frozen BK491.out 9
          have hcz17_0 : w5.cell? ⟨gb492, 0, none⟩ = some (.string a1_0) := (blk_cell BK492.out 0).trans rfl
          have hcz17_1 : w5.cell? ⟨gb492, 1, none⟩ = some (.string a1_1) := (blk_cell BK492.out 1).trans rfl
          have hcz17_2 : w5.cell? ⟨gb492, 2, none⟩ = some (.int .i64 a1_2) := (blk_cell BK492.out 2).trans rfl
          have hcz17_3 : w5.cell? ⟨gb492, 3, none⟩ = some (.int .i64 a1_3) := (blk_cell BK492.out 3).trans rfl
          have hcz17_4 : w5.cell? ⟨gb492, 4, none⟩ = some (.slice A1_4 l1_4.length c1_4) := (blk_cell BK492.out 4).trans rfl
          have hcz17_5 : w5.cell? ⟨gb492, 5, none⟩ = some (.int .i64 a1_5) := (blk_cell BK492.out 5).trans rfl
          have hcz17_6 : w5.cell? ⟨gb492, 6, none⟩ = some (.int .i64 a1_6) := (blk_cell BK492.out 6).trans rfl
          have hcz17_7 : w5.cell? ⟨gb492, 7, none⟩ = some (.int .i64 a1_7) := (blk_cell BK492.out 7).trans rfl
          have hcz17_8 : w5.cell? ⟨gb492, 8, none⟩ = some (.int .i64 a1_8) := (blk_cell BK492.out 8).trans rfl
          have hcz17_9 : w5.cell? ⟨gb492, 9, none⟩ = some (.slice A1_9 l1_9.length c1_9) := (blk_cell BK492.out 9).trans rfl
          have hfz17_0 := blk_frozen BK492.out 0
          have hfz17_1 := blk_frozen BK492.out 1
          have hfz17_2 := blk_frozen BK492.out 2
          have hfz17_3 := blk_frozen BK492.out 3
          have hfz17_4 := blk_frozen BK492.out 4
          have hfz17_5 := blk_frozen BK492.out 5
          have hfz17_6 := blk_frozen BK492.out 6
          have hfz17_7 := blk_frozen BK492.out 7
          have hfz17_8 := blk_frozen BK492.out 8
          have hfz17_9 := blk_frozen BK492.out 9
          go_upto_if 30 with (first | ((with_reducible refine gate_callee (f := 43) rfl ?_); refine goesL_ (some 29) rfl rfl Try.func43 (by kernel_rfl) rfl #[.slice A0_4 l0_4.length c0_4, .slice A1_4 l1_4.length c1_4] rfl (by (try simp only [List.map_toArray, List.map_cons, List.map_nil]); first | done | rfl | (simp only [List.length_drop, List.length_take]; rfl)) ?_; (with_reducible refine (laws_eqMetricS.calls k _ _ l0_4 _ _ l1_4 t493 _ ?side1 ?side2 ?side3 ?side4 A13.out).mono ?_); (case side1 => repeat (first | exact (Kd.C_below HR0_4.out HB.out) | (with_reducible refine Kd.C_alloc ?_ _) | (with_reducible refine Kd.C_drewN ?_ _) | (with_reducible refine Kd.C_drew ?_))); (case side2 => exact HC0_4.out); (case side3 => repeat (first | exact (Kd.C_below HR1_4.out HB.out) | (with_reducible refine Kd.C_alloc ?_ _) | (with_reducible refine Kd.C_drewN ?_ _) | (with_reducible refine Kd.C_drew ?_))); (case side4 => exact HC1_4.out); rintro e w18 ⟨rfl, hb⟩; refine ⟨_, rfl, ?_⟩; have n0_ := Aside0.mk (blk_below (g := gb491) (o := .cells #[.string a0_0, .string a0_1, .int .i64 a0_2, .int .i64 a0_3, .slice A0_4 l0_4.length c0_4, .int .i64 a0_5, .int .i64 a0_6, .int .i64 a0_7, .int .i64 a0_8, .slice A0_9 l0_9.length c0_9] 65 (0, 0)) (by (with_reducible repeat (first | refine blk_drewN ?_ _ | refine blk_drew ?_ | refine blk_alloc ?_ _)); exact BK491.out) hb); have n1_ := Aside0.mk (blk_below (g := gb492) (o := .cells #[.string a1_0, .string a1_1, .int .i64 a1_2, .int .i64 a1_3, .slice A1_4 l1_4.length c1_4, .int .i64 a1_5, .int .i64 a1_6, .int .i64 a1_7, .int .i64 a1_8, .slice A1_9 l1_9.length c1_9] 65 (0, 0)) (by (with_reducible repeat (first | refine blk_drewN ?_ _ | refine blk_drew ?_ | refine blk_alloc ?_ _)); exact BK492.out) hb); have n2_ := Aside0.mk (below_step (by repeat (first | (with_reducible first | exact HB.out | apply below_alloc | apply pw_below_drewN | apply below_drew1 | refine below_set ?_ GE491.out | refine below_set ?_ GE492.out) | exact HB.out)) hb); clear BK491; clear BK492; clear HB; have BK491 := n0_; have BK492 := n1_; have HB := n2_; clear n0_ n1_ n2_; (try clear hb); (try clear hb2); (try clear hk); (try clear hi)))
          (try simp only [Act.put, List.setIfInBounds_toArray, List.set_cons_zero, List.set_cons_succ])
          have H := HC14.out
          clear HC14
          by_cases c19 : t493 = true
          · subst c19
            have H1 : ((laws_eqPace.f a0_5 a0_6 a0_7 a0_8 a1_5 a1_6 a1_7 a1_8).bind fun t494 => (if t494 = true then ((laws_eqNoteS.f k l0_9 l1_9).bind fun t495 => (if t495 = true then (some true) else (some false))) else (some false))) = some r := by rw [if_pos rfl] at H; exact H
            clear H
            have H := H1
            clear H1
            replace H := Option.bind_eq_some_iff.mp H
            obtain ⟨t494, A200, H⟩ := H
            replace H : (if t494 = true then ((laws_eqNoteS.f k l0_9 l1_9).bind fun t495 => (if t495 = true then (some true) else (some false))) else (some false)) = some r := H
            have A20 := Aside0.mk A200
            clear A200
            have HC21 := Aside0.mk H
            clear H
            have hnb22 := NB491_492.out
            have hnc22 := NB492_491.out
            have hcz23_0 : w18.cell? ⟨gb491, 0, none⟩ = some (.string a0_0) := (blk_cell BK491.out 0).trans rfl
            have hcz23_1 : w18.cell? ⟨gb491, 1, none⟩ = some (.string a0_1) := (blk_cell BK491.out 1).trans rfl
            have hcz23_2 : w18.cell? ⟨gb491, 2, none⟩ = some (.int .i64 a0_2) := (blk_cell BK491.out 2).trans rfl
            have hcz23_3 : w18.cell? ⟨gb491, 3, none⟩ = some (.int .i64 a0_3) := (blk_cell BK491.out 3).trans rfl
            have hcz23_4 : w18.cell? ⟨gb491, 4, none⟩ = some (.slice A0_4 l0_4.length c0_4) := (blk_cell BK491.out 4).trans rfl
            have hcz23_5 : w18.cell? ⟨gb491, 5, none⟩ = some (.int .i64 a0_5) := (blk_cell BK491.out 5).trans rfl
            have hcz23_6 : w18.cell? ⟨gb491, 6, none⟩ = some (.int .i64 a0_6) := (blk_cell BK491.out 6).trans rfl
            have hcz23_7 : w18.cell? ⟨gb491, 7, none⟩ = some (.int .i64 a0_7) := (blk_cell BK491.out 7).trans rfl
            have hcz23_8 : w18.cell? ⟨gb491, 8, none⟩ = some (.int .i64 a0_8) := (blk_cell BK491.out 8).trans rfl
            have hcz23_9 : w18.cell? ⟨gb491, 9, none⟩ = some (.slice A0_9 l0_9.length c0_9) := (blk_cell BK491.out 9).trans rfl
            have hfz23_0 := blk_frozen BK491.out 0
            have hfz23_1 := blk_frozen BK491.out 1
            have hfz23_2 := blk_frozen BK491.out 2
            have hfz23_3 := blk_frozen BK491.out 3
            have hfz23_4 := blk_frozen BK491.out 4
            have hfz23_5 := blk_frozen BK491.out 5
            have hfz23_6 := blk_frozen BK491.out 6
            have hfz23_7 := blk_frozen BK491.out 7
            have hfz23_8 := blk_frozen BK491.out 8
            have hfz23_9 := blk_frozen BK491.out 9
            have hcz24_0 : w18.cell? ⟨gb492, 0, none⟩ = some (.string a1_0) := (blk_cell BK492.out 0).trans rfl
            have hcz24_1 : w18.cell? ⟨gb492, 1, none⟩ = some (.string a1_1) := (blk_cell BK492.out 1).trans rfl
            have hcz24_2 : w18.cell? ⟨gb492, 2, none⟩ = some (.int .i64 a1_2) := (blk_cell BK492.out 2).trans rfl
            have hcz24_3 : w18.cell? ⟨gb492, 3, none⟩ = some (.int .i64 a1_3) := (blk_cell BK492.out 3).trans rfl
            have hcz24_4 : w18.cell? ⟨gb492, 4, none⟩ = some (.slice A1_4 l1_4.length c1_4) := (blk_cell BK492.out 4).trans rfl
            have hcz24_5 : w18.cell? ⟨gb492, 5, none⟩ = some (.int .i64 a1_5) := (blk_cell BK492.out 5).trans rfl
            have hcz24_6 : w18.cell? ⟨gb492, 6, none⟩ = some (.int .i64 a1_6) := (blk_cell BK492.out 6).trans rfl
            have hcz24_7 : w18.cell? ⟨gb492, 7, none⟩ = some (.int .i64 a1_7) := (blk_cell BK492.out 7).trans rfl
            have hcz24_8 : w18.cell? ⟨gb492, 8, none⟩ = some (.int .i64 a1_8) := (blk_cell BK492.out 8).trans rfl
            have hcz24_9 : w18.cell? ⟨gb492, 9, none⟩ = some (.slice A1_9 l1_9.length c1_9) := (blk_cell BK492.out 9).trans rfl
            have hfz24_0 := blk_frozen BK492.out 0
            have hfz24_1 := blk_frozen BK492.out 1
            have hfz24_2 := blk_frozen BK492.out 2
            have hfz24_3 := blk_frozen BK492.out 3
            have hfz24_4 := blk_frozen BK492.out 4
            have hfz24_5 := blk_frozen BK492.out 5
            have hfz24_6 := blk_frozen BK492.out 6
            have hfz24_7 := blk_frozen BK492.out 7
            have hfz24_8 := blk_frozen BK492.out 8
            have hfz24_9 := blk_frozen BK492.out 9
            go_upto_if 36 with (first | ((with_reducible refine gate_callee (f := 101) rfl ?_); refine goesL_ (some 35) rfl rfl Try.func101 (by kernel_rfl) rfl #[.agg #[.int .i64 a0_5, .int .i64 a0_6, .int .i64 a0_7, .int .i64 a0_8], .agg #[.int .i64 a1_5, .int .i64 a1_6, .int .i64 a1_7, .int .i64 a1_8]] rfl (by (try simp only [List.map_toArray, List.map_cons, List.map_nil]); first | done | rfl | (simp only [List.length_drop, List.length_take]; rfl)) ?_; (with_reducible refine (laws_eqPace.calls a0_5 a0_6 a0_7 a0_8 a1_5 a1_6 a1_7 a1_8 t494 _ A20.out).mono ?_); rintro e w25 ⟨rfl, hb⟩; refine ⟨_, rfl, ?_⟩; have n0_ := Aside0.mk (blk_below (g := gb491) (o := .cells #[.string a0_0, .string a0_1, .int .i64 a0_2, .int .i64 a0_3, .slice A0_4 l0_4.length c0_4, .int .i64 a0_5, .int .i64 a0_6, .int .i64 a0_7, .int .i64 a0_8, .slice A0_9 l0_9.length c0_9] 65 (0, 0)) (by (with_reducible repeat (first | refine blk_drewN ?_ _ | refine blk_drew ?_ | refine blk_alloc ?_ _)); exact BK491.out) hb); have n1_ := Aside0.mk (blk_below (g := gb492) (o := .cells #[.string a1_0, .string a1_1, .int .i64 a1_2, .int .i64 a1_3, .slice A1_4 l1_4.length c1_4, .int .i64 a1_5, .int .i64 a1_6, .int .i64 a1_7, .int .i64 a1_8, .slice A1_9 l1_9.length c1_9] 65 (0, 0)) (by (with_reducible repeat (first | refine blk_drewN ?_ _ | refine blk_drew ?_ | refine blk_alloc ?_ _)); exact BK492.out) hb); have n2_ := Aside0.mk (below_step (by repeat (first | (with_reducible first | exact HB.out | apply below_alloc | apply pw_below_drewN | apply below_drew1 | refine below_set ?_ GE491.out | refine below_set ?_ GE492.out) | exact HB.out)) hb); clear BK491; clear BK492; clear HB; have BK491 := n0_; have BK492 := n1_; have HB := n2_; clear n0_ n1_ n2_; (try clear hb); (try clear hb2); (try clear hk); (try clear hi)))
            (try simp only [Act.put, List.setIfInBounds_toArray, List.set_cons_zero, List.set_cons_succ])
            have H := HC21.out
            clear HC21
            by_cases c26 : t494 = true
            · subst c26
              have H1 : ((laws_eqNoteS.f k l0_9 l1_9).bind fun t495 => (if t495 = true then (some true) else (some false))) = some r := by rw [if_pos rfl] at H; exact H
              clear H
              have H := H1
              clear H1
              replace H := Option.bind_eq_some_iff.mp H
              obtain ⟨t495, A270, H⟩ := H
              replace H : (if t495 = true then (some true) else (some false)) = some r := H
              have A27 := Aside0.mk A270
              clear A270
              have HC28 := Aside0.mk H
              clear H
              have hnb29 := NB491_492.out
              have hnc29 := NB492_491.out
              have hcz30_0 : w25.cell? ⟨gb491, 0, none⟩ = some (.string a0_0) := (blk_cell BK491.out 0).trans rfl
              have hcz30_1 : w25.cell? ⟨gb491, 1, none⟩ = some (.string a0_1) := (blk_cell BK491.out 1).trans rfl
              have hcz30_2 : w25.cell? ⟨gb491, 2, none⟩ = some (.int .i64 a0_2) := (blk_cell BK491.out 2).trans rfl
              have hcz30_3 : w25.cell? ⟨gb491, 3, none⟩ = some (.int .i64 a0_3) := (blk_cell BK491.out 3).trans rfl
              have hcz30_4 : w25.cell? ⟨gb491, 4, none⟩ = some (.slice A0_4 l0_4.length c0_4) := (blk_cell BK491.out 4).trans rfl
              have hcz30_5 : w25.cell? ⟨gb491, 5, none⟩ = some (.int .i64 a0_5) := (blk_cell BK491.out 5).trans rfl
              have hcz30_6 : w25.cell? ⟨gb491, 6, none⟩ = some (.int .i64 a0_6) := (blk_cell BK491.out 6).trans rfl
              have hcz30_7 : w25.cell? ⟨gb491, 7, none⟩ = some (.int .i64 a0_7) := (blk_cell BK491.out 7).trans rfl
              have hcz30_8 : w25.cell? ⟨gb491, 8, none⟩ = some (.int .i64 a0_8) := (blk_cell BK491.out 8).trans rfl
              have hcz30_9 : w25.cell? ⟨gb491, 9, none⟩ = some (.slice A0_9 l0_9.length c0_9) := (blk_cell BK491.out 9).trans rfl
              have hfz30_0 := blk_frozen BK491.out 0
              have hfz30_1 := blk_frozen BK491.out 1
              have hfz30_2 := blk_frozen BK491.out 2
              have hfz30_3 := blk_frozen BK491.out 3
              have hfz30_4 := blk_frozen BK491.out 4
              have hfz30_5 := blk_frozen BK491.out 5
              have hfz30_6 := blk_frozen BK491.out 6
              have hfz30_7 := blk_frozen BK491.out 7
              have hfz30_8 := blk_frozen BK491.out 8
              have hfz30_9 := blk_frozen BK491.out 9
              have hcz31_0 : w25.cell? ⟨gb492, 0, none⟩ = some (.string a1_0) := (blk_cell BK492.out 0).trans rfl
              have hcz31_1 : w25.cell? ⟨gb492, 1, none⟩ = some (.string a1_1) := (blk_cell BK492.out 1).trans rfl
              have hcz31_2 : w25.cell? ⟨gb492, 2, none⟩ = some (.int .i64 a1_2) := (blk_cell BK492.out 2).trans rfl
              have hcz31_3 : w25.cell? ⟨gb492, 3, none⟩ = some (.int .i64 a1_3) := (blk_cell BK492.out 3).trans rfl
              have hcz31_4 : w25.cell? ⟨gb492, 4, none⟩ = some (.slice A1_4 l1_4.length c1_4) := (blk_cell BK492.out 4).trans rfl
              have hcz31_5 : w25.cell? ⟨gb492, 5, none⟩ = some (.int .i64 a1_5) := (blk_cell BK492.out 5).trans rfl
              have hcz31_6 : w25.cell? ⟨gb492, 6, none⟩ = some (.int .i64 a1_6) := (blk_cell BK492.out 6).trans rfl
              have hcz31_7 : w25.cell? ⟨gb492, 7, none⟩ = some (.int .i64 a1_7) := (blk_cell BK492.out 7).trans rfl
              have hcz31_8 : w25.cell? ⟨gb492, 8, none⟩ = some (.int .i64 a1_8) := (blk_cell BK492.out 8).trans rfl
              have hcz31_9 : w25.cell? ⟨gb492, 9, none⟩ = some (.slice A1_9 l1_9.length c1_9) := (blk_cell BK492.out 9).trans rfl
              have hfz31_0 := blk_frozen BK492.out 0
              have hfz31_1 := blk_frozen BK492.out 1
              have hfz31_2 := blk_frozen BK492.out 2
              have hfz31_3 := blk_frozen BK492.out 3
              have hfz31_4 := blk_frozen BK492.out 4
              have hfz31_5 := blk_frozen BK492.out 5
              have hfz31_6 := blk_frozen BK492.out 6
              have hfz31_7 := blk_frozen BK492.out 7
              have hfz31_8 := blk_frozen BK492.out 8
              have hfz31_9 := blk_frozen BK492.out 9
              go_upto_if 42 with (first | ((with_reducible refine gate_callee (f := 102) rfl ?_); refine goesL_ (some 41) rfl rfl Try.func102 (by kernel_rfl) rfl #[.slice A0_9 l0_9.length c0_9, .slice A1_9 l1_9.length c1_9] rfl (by (try simp only [List.map_toArray, List.map_cons, List.map_nil]); first | done | rfl | (simp only [List.length_drop, List.length_take]; rfl)) ?_; (with_reducible refine (laws_eqNoteS.calls k _ _ l0_9 _ _ l1_9 t495 _ ?side1 ?side2 ?side3 ?side4 A27.out).mono ?_); (case side1 => repeat (first | exact (Kd.C_below HR0_9.out HB.out) | (with_reducible refine Kd.C_alloc ?_ _) | (with_reducible refine Kd.C_drewN ?_ _) | (with_reducible refine Kd.C_drew ?_))); (case side2 => exact HC0_9.out); (case side3 => repeat (first | exact (Kd.C_below HR1_9.out HB.out) | (with_reducible refine Kd.C_alloc ?_ _) | (with_reducible refine Kd.C_drewN ?_ _) | (with_reducible refine Kd.C_drew ?_))); (case side4 => exact HC1_9.out); rintro e w32 ⟨rfl, hb⟩; refine ⟨_, rfl, ?_⟩; have n0_ := Aside0.mk (blk_below (g := gb491) (o := .cells #[.string a0_0, .string a0_1, .int .i64 a0_2, .int .i64 a0_3, .slice A0_4 l0_4.length c0_4, .int .i64 a0_5, .int .i64 a0_6, .int .i64 a0_7, .int .i64 a0_8, .slice A0_9 l0_9.length c0_9] 65 (0, 0)) (by (with_reducible repeat (first | refine blk_drewN ?_ _ | refine blk_drew ?_ | refine blk_alloc ?_ _)); exact BK491.out) hb); have n1_ := Aside0.mk (blk_below (g := gb492) (o := .cells #[.string a1_0, .string a1_1, .int .i64 a1_2, .int .i64 a1_3, .slice A1_4 l1_4.length c1_4, .int .i64 a1_5, .int .i64 a1_6, .int .i64 a1_7, .int .i64 a1_8, .slice A1_9 l1_9.length c1_9] 65 (0, 0)) (by (with_reducible repeat (first | refine blk_drewN ?_ _ | refine blk_drew ?_ | refine blk_alloc ?_ _)); exact BK492.out) hb); have n2_ := Aside0.mk (below_step (by repeat (first | (with_reducible first | exact HB.out | apply below_alloc | apply pw_below_drewN | apply below_drew1 | refine below_set ?_ GE491.out | refine below_set ?_ GE492.out) | exact HB.out)) hb); clear BK491; clear BK492; clear HB; have BK491 := n0_; have BK492 := n1_; have HB := n2_; clear n0_ n1_ n2_; (try clear hb); (try clear hb2); (try clear hk); (try clear hi)))
              (try simp only [Act.put, List.setIfInBounds_toArray, List.set_cons_zero, List.set_cons_succ])
              have H := HC28.out
              clear HC28
              by_cases c33 : t495 = true
              · subst c33
                have H1 : (some true) = some r := by rw [if_pos rfl] at H; exact H
                clear H
                have H := H1
                clear H1
                obtain rfl := Option.some.inj H
                go_wp2
                go_ret
                exact ⟨by first | rfl | (simp [errW_none, errW_some] <;> rfl) | (simp [*, errW_none, errW_some] <;> rfl), by repeat (first | (with_reducible first | exact HB.out | apply below_alloc | apply pw_below_drewN | apply below_drew1 | refine below_set ?_ GE491.out | refine below_set ?_ GE492.out) | exact HB.out)⟩
              · replace c33 := Bool.eq_false_iff.mpr c33
                subst c33
                have H1 : (some false) = some r := by rw [if_neg (show ¬ (false = true) by decide)] at H; exact H
                clear H
                have H := H1
                clear H1
                obtain rfl := Option.some.inj H
                go_wp2
                go_ret
                exact ⟨by first | rfl | (simp [errW_none, errW_some] <;> rfl) | (simp [*, errW_none, errW_some] <;> rfl), by repeat (first | (with_reducible first | exact HB.out | apply below_alloc | apply pw_below_drewN | apply below_drew1 | refine below_set ?_ GE491.out | refine below_set ?_ GE492.out) | exact HB.out)⟩
            · replace c26 := Bool.eq_false_iff.mpr c26
              subst c26
              have H1 : (some false) = some r := by rw [if_neg (show ¬ (false = true) by decide)] at H; exact H
              clear H
              have H := H1
              clear H1
              obtain rfl := Option.some.inj H
              go_wp2
              go_ret
              exact ⟨by first | rfl | (simp [errW_none, errW_some] <;> rfl) | (simp [*, errW_none, errW_some] <;> rfl), by repeat (first | (with_reducible first | exact HB.out | apply below_alloc | apply pw_below_drewN | apply below_drew1 | refine below_set ?_ GE491.out | refine below_set ?_ GE492.out) | exact HB.out)⟩
          · replace c19 := Bool.eq_false_iff.mpr c19
            subst c19
            have H1 : (some false) = some r := by rw [if_neg (show ¬ (false = true) by decide)] at H; exact H
            clear H
            have H := H1
            clear H1
            obtain rfl := Option.some.inj H
            go_wp2
            go_ret
            exact ⟨by first | rfl | (simp [errW_none, errW_some] <;> rfl) | (simp [*, errW_none, errW_some] <;> rfl), by repeat (first | (with_reducible first | exact HB.out | apply below_alloc | apply pw_below_drewN | apply below_drew1 | refine below_set ?_ GE491.out | refine below_set ?_ GE492.out) | exact HB.out)⟩
        · rw [if_neg c12] at H
          have c12b0 : (a0_3 == a1_3) = false := beq_eq_false_iff_ne.mpr c12
          have c12b1 : (a0_3 != a1_3) = true := bne_iff_ne.mpr c12
          obtain rfl := Option.some.inj H
          have hnb34 := NB491_492.out
          have hnc34 := NB492_491.out
          have hcz35_0 : w5.cell? ⟨gb491, 0, none⟩ = some (.string a0_0) := (blk_cell BK491.out 0).trans rfl
          have hcz35_1 : w5.cell? ⟨gb491, 1, none⟩ = some (.string a0_1) := (blk_cell BK491.out 1).trans rfl
          have hcz35_2 : w5.cell? ⟨gb491, 2, none⟩ = some (.int .i64 a0_2) := (blk_cell BK491.out 2).trans rfl
          have hcz35_3 : w5.cell? ⟨gb491, 3, none⟩ = some (.int .i64 a0_3) := (blk_cell BK491.out 3).trans rfl
          have hcz35_4 : w5.cell? ⟨gb491, 4, none⟩ = some (.slice A0_4 l0_4.length c0_4) := (blk_cell BK491.out 4).trans rfl
          have hcz35_5 : w5.cell? ⟨gb491, 5, none⟩ = some (.int .i64 a0_5) := (blk_cell BK491.out 5).trans rfl
          have hcz35_6 : w5.cell? ⟨gb491, 6, none⟩ = some (.int .i64 a0_6) := (blk_cell BK491.out 6).trans rfl
          have hcz35_7 : w5.cell? ⟨gb491, 7, none⟩ = some (.int .i64 a0_7) := (blk_cell BK491.out 7).trans rfl
          have hcz35_8 : w5.cell? ⟨gb491, 8, none⟩ = some (.int .i64 a0_8) := (blk_cell BK491.out 8).trans rfl
          have hcz35_9 : w5.cell? ⟨gb491, 9, none⟩ = some (.slice A0_9 l0_9.length c0_9) := (blk_cell BK491.out 9).trans rfl
          have hfz35_0 := blk_frozen BK491.out 0
          have hfz35_1 := blk_frozen BK491.out 1
          have hfz35_2 := blk_frozen BK491.out 2
          have hfz35_3 := blk_frozen BK491.out 3
          have hfz35_4 := blk_frozen BK491.out 4
          have hfz35_5 := blk_frozen BK491.out 5
          have hfz35_6 := blk_frozen BK491.out 6
          have hfz35_7 := blk_frozen BK491.out 7
          have hfz35_8 := blk_frozen BK491.out 8
          have hfz35_9 := blk_frozen BK491.out 9
          have hcz36_0 : w5.cell? ⟨gb492, 0, none⟩ = some (.string a1_0) := (blk_cell BK492.out 0).trans rfl
          have hcz36_1 : w5.cell? ⟨gb492, 1, none⟩ = some (.string a1_1) := (blk_cell BK492.out 1).trans rfl
          have hcz36_2 : w5.cell? ⟨gb492, 2, none⟩ = some (.int .i64 a1_2) := (blk_cell BK492.out 2).trans rfl
          have hcz36_3 : w5.cell? ⟨gb492, 3, none⟩ = some (.int .i64 a1_3) := (blk_cell BK492.out 3).trans rfl
          have hcz36_4 : w5.cell? ⟨gb492, 4, none⟩ = some (.slice A1_4 l1_4.length c1_4) := (blk_cell BK492.out 4).trans rfl
          have hcz36_5 : w5.cell? ⟨gb492, 5, none⟩ = some (.int .i64 a1_5) := (blk_cell BK492.out 5).trans rfl
          have hcz36_6 : w5.cell? ⟨gb492, 6, none⟩ = some (.int .i64 a1_6) := (blk_cell BK492.out 6).trans rfl
          have hcz36_7 : w5.cell? ⟨gb492, 7, none⟩ = some (.int .i64 a1_7) := (blk_cell BK492.out 7).trans rfl
          have hcz36_8 : w5.cell? ⟨gb492, 8, none⟩ = some (.int .i64 a1_8) := (blk_cell BK492.out 8).trans rfl
          have hcz36_9 : w5.cell? ⟨gb492, 9, none⟩ = some (.slice A1_9 l1_9.length c1_9) := (blk_cell BK492.out 9).trans rfl
          have hfz36_0 := blk_frozen BK492.out 0
          have hfz36_1 := blk_frozen BK492.out 1
          have hfz36_2 := blk_frozen BK492.out 2
          have hfz36_3 := blk_frozen BK492.out 3
          have hfz36_4 := blk_frozen BK492.out 4
          have hfz36_5 := blk_frozen BK492.out 5
          have hfz36_6 := blk_frozen BK492.out 6
          have hfz36_7 := blk_frozen BK492.out 7
          have hfz36_8 := blk_frozen BK492.out 8
          have hfz36_9 := blk_frozen BK492.out 9
          go_wp2
          go_ret
          exact ⟨by first | rfl | (simp [errW_none, errW_some] <;> rfl) | (simp [*, errW_none, errW_some] <;> rfl), by repeat (first | (with_reducible first | exact HB.out | apply below_alloc | apply pw_below_drewN | apply below_drew1 | refine below_set ?_ GE491.out | refine below_set ?_ GE492.out) | exact HB.out)⟩
      · rw [if_neg c11] at H
        have c11b0 : (a0_2 == a1_2) = false := beq_eq_false_iff_ne.mpr c11
        have c11b1 : (a0_2 != a1_2) = true := bne_iff_ne.mpr c11
        obtain rfl := Option.some.inj H
        have hnb37 := NB491_492.out
        have hnc37 := NB492_491.out
        have hcz38_0 : w5.cell? ⟨gb491, 0, none⟩ = some (.string a0_0) := (blk_cell BK491.out 0).trans rfl
        have hcz38_1 : w5.cell? ⟨gb491, 1, none⟩ = some (.string a0_1) := (blk_cell BK491.out 1).trans rfl
        have hcz38_2 : w5.cell? ⟨gb491, 2, none⟩ = some (.int .i64 a0_2) := (blk_cell BK491.out 2).trans rfl
        have hcz38_3 : w5.cell? ⟨gb491, 3, none⟩ = some (.int .i64 a0_3) := (blk_cell BK491.out 3).trans rfl
        have hcz38_4 : w5.cell? ⟨gb491, 4, none⟩ = some (.slice A0_4 l0_4.length c0_4) := (blk_cell BK491.out 4).trans rfl
        have hcz38_5 : w5.cell? ⟨gb491, 5, none⟩ = some (.int .i64 a0_5) := (blk_cell BK491.out 5).trans rfl
        have hcz38_6 : w5.cell? ⟨gb491, 6, none⟩ = some (.int .i64 a0_6) := (blk_cell BK491.out 6).trans rfl
        have hcz38_7 : w5.cell? ⟨gb491, 7, none⟩ = some (.int .i64 a0_7) := (blk_cell BK491.out 7).trans rfl
        have hcz38_8 : w5.cell? ⟨gb491, 8, none⟩ = some (.int .i64 a0_8) := (blk_cell BK491.out 8).trans rfl
        have hcz38_9 : w5.cell? ⟨gb491, 9, none⟩ = some (.slice A0_9 l0_9.length c0_9) := (blk_cell BK491.out 9).trans rfl
        have hfz38_0 := blk_frozen BK491.out 0
        have hfz38_1 := blk_frozen BK491.out 1
        have hfz38_2 := blk_frozen BK491.out 2
        have hfz38_3 := blk_frozen BK491.out 3
        have hfz38_4 := blk_frozen BK491.out 4
        have hfz38_5 := blk_frozen BK491.out 5
        have hfz38_6 := blk_frozen BK491.out 6
        have hfz38_7 := blk_frozen BK491.out 7
        have hfz38_8 := blk_frozen BK491.out 8
        have hfz38_9 := blk_frozen BK491.out 9
        have hcz39_0 : w5.cell? ⟨gb492, 0, none⟩ = some (.string a1_0) := (blk_cell BK492.out 0).trans rfl
        have hcz39_1 : w5.cell? ⟨gb492, 1, none⟩ = some (.string a1_1) := (blk_cell BK492.out 1).trans rfl
        have hcz39_2 : w5.cell? ⟨gb492, 2, none⟩ = some (.int .i64 a1_2) := (blk_cell BK492.out 2).trans rfl
        have hcz39_3 : w5.cell? ⟨gb492, 3, none⟩ = some (.int .i64 a1_3) := (blk_cell BK492.out 3).trans rfl
        have hcz39_4 : w5.cell? ⟨gb492, 4, none⟩ = some (.slice A1_4 l1_4.length c1_4) := (blk_cell BK492.out 4).trans rfl
        have hcz39_5 : w5.cell? ⟨gb492, 5, none⟩ = some (.int .i64 a1_5) := (blk_cell BK492.out 5).trans rfl
        have hcz39_6 : w5.cell? ⟨gb492, 6, none⟩ = some (.int .i64 a1_6) := (blk_cell BK492.out 6).trans rfl
        have hcz39_7 : w5.cell? ⟨gb492, 7, none⟩ = some (.int .i64 a1_7) := (blk_cell BK492.out 7).trans rfl
        have hcz39_8 : w5.cell? ⟨gb492, 8, none⟩ = some (.int .i64 a1_8) := (blk_cell BK492.out 8).trans rfl
        have hcz39_9 : w5.cell? ⟨gb492, 9, none⟩ = some (.slice A1_9 l1_9.length c1_9) := (blk_cell BK492.out 9).trans rfl
        have hfz39_0 := blk_frozen BK492.out 0
        have hfz39_1 := blk_frozen BK492.out 1
        have hfz39_2 := blk_frozen BK492.out 2
        have hfz39_3 := blk_frozen BK492.out 3
        have hfz39_4 := blk_frozen BK492.out 4
        have hfz39_5 := blk_frozen BK492.out 5
        have hfz39_6 := blk_frozen BK492.out 6
        have hfz39_7 := blk_frozen BK492.out 7
        have hfz39_8 := blk_frozen BK492.out 8
        have hfz39_9 := blk_frozen BK492.out 9
        go_wp2
        go_ret
        exact ⟨by first | rfl | (simp [errW_none, errW_some] <;> rfl) | (simp [*, errW_none, errW_some] <;> rfl), by repeat (first | (with_reducible first | exact HB.out | apply below_alloc | apply pw_below_drewN | apply below_drew1 | refine below_set ?_ GE491.out | refine below_set ?_ GE492.out) | exact HB.out)⟩
    · rw [if_neg c10] at H
      have c10b0 : (a0_1.toList == a1_1.toList) = false := beq_eq_false_iff_ne.mpr c10
      have c10b1 : (a0_1.toList != a1_1.toList) = true := bne_iff_ne.mpr c10
      obtain rfl := Option.some.inj H
      have hnb40 := NB491_492.out
      have hnc40 := NB492_491.out
      have hcz41_0 : w5.cell? ⟨gb491, 0, none⟩ = some (.string a0_0) := (blk_cell BK491.out 0).trans rfl
      have hcz41_1 : w5.cell? ⟨gb491, 1, none⟩ = some (.string a0_1) := (blk_cell BK491.out 1).trans rfl
      have hcz41_2 : w5.cell? ⟨gb491, 2, none⟩ = some (.int .i64 a0_2) := (blk_cell BK491.out 2).trans rfl
      have hcz41_3 : w5.cell? ⟨gb491, 3, none⟩ = some (.int .i64 a0_3) := (blk_cell BK491.out 3).trans rfl
      have hcz41_4 : w5.cell? ⟨gb491, 4, none⟩ = some (.slice A0_4 l0_4.length c0_4) := (blk_cell BK491.out 4).trans rfl
      have hcz41_5 : w5.cell? ⟨gb491, 5, none⟩ = some (.int .i64 a0_5) := (blk_cell BK491.out 5).trans rfl
      have hcz41_6 : w5.cell? ⟨gb491, 6, none⟩ = some (.int .i64 a0_6) := (blk_cell BK491.out 6).trans rfl
      have hcz41_7 : w5.cell? ⟨gb491, 7, none⟩ = some (.int .i64 a0_7) := (blk_cell BK491.out 7).trans rfl
      have hcz41_8 : w5.cell? ⟨gb491, 8, none⟩ = some (.int .i64 a0_8) := (blk_cell BK491.out 8).trans rfl
      have hcz41_9 : w5.cell? ⟨gb491, 9, none⟩ = some (.slice A0_9 l0_9.length c0_9) := (blk_cell BK491.out 9).trans rfl
      have hfz41_0 := blk_frozen BK491.out 0
      have hfz41_1 := blk_frozen BK491.out 1
      have hfz41_2 := blk_frozen BK491.out 2
      have hfz41_3 := blk_frozen BK491.out 3
      have hfz41_4 := blk_frozen BK491.out 4
      have hfz41_5 := blk_frozen BK491.out 5
      have hfz41_6 := blk_frozen BK491.out 6
      have hfz41_7 := blk_frozen BK491.out 7
      have hfz41_8 := blk_frozen BK491.out 8
      have hfz41_9 := blk_frozen BK491.out 9
      have hcz42_0 : w5.cell? ⟨gb492, 0, none⟩ = some (.string a1_0) := (blk_cell BK492.out 0).trans rfl
      have hcz42_1 : w5.cell? ⟨gb492, 1, none⟩ = some (.string a1_1) := (blk_cell BK492.out 1).trans rfl
      have hcz42_2 : w5.cell? ⟨gb492, 2, none⟩ = some (.int .i64 a1_2) := (blk_cell BK492.out 2).trans rfl
      have hcz42_3 : w5.cell? ⟨gb492, 3, none⟩ = some (.int .i64 a1_3) := (blk_cell BK492.out 3).trans rfl
      have hcz42_4 : w5.cell? ⟨gb492, 4, none⟩ = some (.slice A1_4 l1_4.length c1_4) := (blk_cell BK492.out 4).trans rfl
      have hcz42_5 : w5.cell? ⟨gb492, 5, none⟩ = some (.int .i64 a1_5) := (blk_cell BK492.out 5).trans rfl
      have hcz42_6 : w5.cell? ⟨gb492, 6, none⟩ = some (.int .i64 a1_6) := (blk_cell BK492.out 6).trans rfl
      have hcz42_7 : w5.cell? ⟨gb492, 7, none⟩ = some (.int .i64 a1_7) := (blk_cell BK492.out 7).trans rfl
      have hcz42_8 : w5.cell? ⟨gb492, 8, none⟩ = some (.int .i64 a1_8) := (blk_cell BK492.out 8).trans rfl
      have hcz42_9 : w5.cell? ⟨gb492, 9, none⟩ = some (.slice A1_9 l1_9.length c1_9) := (blk_cell BK492.out 9).trans rfl
      have hfz42_0 := blk_frozen BK492.out 0
      have hfz42_1 := blk_frozen BK492.out 1
      have hfz42_2 := blk_frozen BK492.out 2
      have hfz42_3 := blk_frozen BK492.out 3
      have hfz42_4 := blk_frozen BK492.out 4
      have hfz42_5 := blk_frozen BK492.out 5
      have hfz42_6 := blk_frozen BK492.out 6
      have hfz42_7 := blk_frozen BK492.out 7
      have hfz42_8 := blk_frozen BK492.out 8
      have hfz42_9 := blk_frozen BK492.out 9
      go_wp2
      go_ret
      exact ⟨by first | rfl | (simp [errW_none, errW_some] <;> rfl) | (simp [*, errW_none, errW_some] <;> rfl), by repeat (first | (with_reducible first | exact HB.out | apply below_alloc | apply pw_below_drewN | apply below_drew1 | refine below_set ?_ GE491.out | refine below_set ?_ GE492.out) | exact HB.out)⟩
  · rw [if_neg c9] at H
    have c9b0 : (a0_0.toList == a1_0.toList) = false := beq_eq_false_iff_ne.mpr c9
    have c9b1 : (a0_0.toList != a1_0.toList) = true := bne_iff_ne.mpr c9
    (first | rw [c9b0] | rw [c9b1] | (simp only [i64_w, i32_w]; rw [c9b0]) | skip)
    obtain rfl := Option.some.inj H
    go_wp2
    go_ret
    exact ⟨by first | rfl | (simp [errW_none, errW_some] <;> rfl) | (simp [*, errW_none, errW_some] <;> rfl), by repeat (first | (with_reducible first | exact HB.out | apply below_alloc | apply pw_below_drewN | apply below_drew1 | refine below_set ?_ GE491.out | refine below_set ?_ GE492.out) | exact HB.out)⟩

end Go.Proofs.Ytjkanclhlnojhaa.P
