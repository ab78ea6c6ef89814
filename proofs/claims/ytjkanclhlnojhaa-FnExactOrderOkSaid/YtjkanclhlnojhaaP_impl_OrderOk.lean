-- Made by drive.py (a program of this session) over the kit's print; not written line by line by a hand.
import Derived.Test.YtjkanclhlnojhaaP0
import Derived.Test.YtjkanclhlnojhaaP_impl_from
import Derived.Test.YtjkanclhlnojhaaP_impl_notesOk
import Derived.Test.YtjkanclhlnojhaaP_spec_MetricOk
import Derived.Test.YtjkanclhlnojhaaP_spec_NameOk
import Derived.Test.YtjkanclhlnojhaaP_spec_PaceOk
namespace Go.Proofs.Ytjkanclhlnojhaa.P
open Go.RowKit Go.Proofs.YtjkanclhlnojhaaW.PrintWords Go.Proofs.YtjkanclhlnojhaaW.PrintLast Go.Proofs.YtjkanclhlnojhaaW.PrintMore
attribute [local go_sem] max2_int min2_int max_two min_two max_three min_three max_four min_four   -- for this text's walks alone
set_option linter.unusedVariables false
set_option linter.unusedSimpArgs false

/-! ### impl_OrderOk: function 74 -/
def impl_OrderOk.l0 : Nat → List (S35) → Int → Int → ByteArray → ByteArray → Int → Int → List (S35) → Int → Int → Int → Int → List (S94) → Option (Bool)
  | 0, _, _, _, _, _, _, _, _, _, _, _, _, _ => none
  | k + 1, x6, x7, x8, x1035000, x1035001, x1035002, x1035003, x1035004, x1035005, x1035006, x1035007, x1035008, x1035009 => if x8 < x7 then (if 0 ≤ x8 then (if x8 < (x6.length : Int) then ((impl_MetricOk.f k ((rd_T35 x6 x8).f0) ((rd_T35 x6 x8).f1) ((rd_T35 x6 x8).f2)).bind fun t1037 => (if t1037 = true then (if x8 > 0 then (if 0 ≤ (wrap64 (x8 - 1)) then (if (wrap64 (x8 - 1)) < (x1035004.length : Int) then (if ((Op.bytesLess (((rd_T35 x1035004 (wrap64 (x8 - 1))).f0).toList) (((rd_T35 x6 x8).f0).toList)) = true) then (impl_OrderOk.l0 k x6 x7 (wrap64 (x8 + 1)) x1035000 x1035001 x1035002 x1035003 x1035004 x1035005 x1035006 x1035007 x1035008 x1035009) else (some false)) else (none)) else (none)) else (impl_OrderOk.l0 k x6 x7 (wrap64 (x8 + 1)) x1035000 x1035001 x1035002 x1035003 x1035004 x1035005 x1035006 x1035007 x1035008 x1035009)) else (some false))) else (none)) else (none)) else ((impl_NameOk.f k x1035000).bind fun t1039 => (if t1039 = true then ((impl_NameOk.f k x1035001).bind fun t1040 => (if t1040 = true then ((impl_from.f x1035002 1 x1035003).bind fun t1041 => (if t1041 = true then (if x1035003 ≤ 1000 then (if (x1035004.length : Int) ≤ 4 then ((impl_PaceOk.f x1035005 x1035006 x1035007 x1035008).bind fun t1042 => (if t1042 = true then ((impl_notesOk.f k x1035009).bind fun t1043 => (some t1043)) else (some false))) else (some false)) else (some false)) else (some false))) else (some false))) else (some false)))
def impl_OrderOk.f (k : Nat) (a0_0 : ByteArray) (a0_1 : ByteArray) (a0_2 : Int) (a0_3 : Int) (l0_4 : List (S35)) (a0_5 : Int) (a0_6 : Int) (a0_7 : Int) (a0_8 : Int) (l0_9 : List (S94)) : Option (Bool) := impl_OrderOk.l0 k l0_4 (l0_4.length : Int) 0 a0_0 a0_1 a0_2 a0_3 l0_4 a0_5 a0_6 a0_7 a0_8 l0_9
theorem impl_OrderOk.mono_l : ∀ k, (∀ y0 y1 y2 y3 y4 y5 y6 y7 y8 y9 y10 y11 y12, LeO (impl_OrderOk.l0 k y0 y1 y2 y3 y4 y5 y6 y7 y8 y9 y10 y11 y12) (impl_OrderOk.l0 (k + 1) y0 y1 y2 y3 y4 y5 y6 y7 y8 y9 y10 y11 y12))
  | 0 => fun _ _ _ _ _ _ _ _ _ _ _ _ _ r h => by simp [impl_OrderOk.l0] at h
  | k + 1 => by
    have ih0 := impl_OrderOk.mono_l k
    · intro y0 y1 y2 y3 y4 y5 y6 y7 y8 y9 y10 y11 y12
      unfold impl_OrderOk.l0
      repeat' first
      | (with_reducible exact ih0 _ _ _ _ _ _ _ _ _ _ _ _ _)
      | (with_reducible exact impl_MetricOk.mono _ _ _ _)
      | (with_reducible exact impl_NameOk.mono _ _)
      | (with_reducible exact impl_notesOk.mono _ _)
      | (with_reducible exact LeO.refl _)
      | (with_reducible exact LeO.none _)
      | (with_reducible refine LeO.ite ?_ ?_)
      | (with_reducible refine LeO.bind ?_ (fun _ => ?_))
      | exact ih0 _ _ _ _ _ _ _ _ _ _ _ _ _
      | exact impl_MetricOk.mono _ _ _ _
      | exact impl_NameOk.mono _ _
      | exact impl_notesOk.mono _ _
      | exact LeO.none _
      | refine LeO.ite ?_ ?_
      | refine LeO.bind ?_ (fun _ => ?_)
theorem impl_OrderOk.mono : ∀ a0 a1 a2 a3 a4 a5 a6 a7 a8 a9 k, LeO (impl_OrderOk.f k a0 a1 a2 a3 a4 a5 a6 a7 a8 a9) (impl_OrderOk.f (k + 1) a0 a1 a2 a3 a4 a5 a6 a7 a8 a9) := by
  intro a0 a1 a2 a3 a4 a5 a6 a7 a8 a9 k
  have ih0 := impl_OrderOk.mono_l k
  unfold impl_OrderOk.f
  repeat' first
      | (with_reducible exact ih0 _ _ _ _ _ _ _ _ _ _ _ _ _)
      | (with_reducible exact impl_MetricOk.mono _ _ _ _)
      | (with_reducible exact impl_NameOk.mono _ _)
      | (with_reducible exact impl_notesOk.mono _ _)
      | (with_reducible exact LeO.refl _)
      | (with_reducible exact LeO.none _)
      | (with_reducible refine LeO.ite ?_ ?_)
      | (with_reducible refine LeO.bind ?_ (fun _ => ?_))
      | exact ih0 _ _ _ _ _ _ _ _ _ _ _ _ _
      | exact impl_MetricOk.mono _ _ _ _
      | exact impl_NameOk.mono _ _
      | exact impl_notesOk.mono _ _
      | exact LeO.none _
      | refine LeO.ite ?_ ?_
      | refine LeO.bind ?_ (fun _ => ?_)
def impl_OrderOk.T4 : Bool × List (List Nat × List Nat) := (true, [([], []), ([0], [0]), ([1], [1]), ([2, 1], [2]), ([3], [3]), ([4, 3], [3, 4]), ([5, 3, 3], [3, 5]), ([6], [6]), ([7, 6], [6, 7]), ([6], [6]), ([9, 6], [6, 9]), ([8, 10, 6], [6, 8, 10]), ([11, 6], [6, 11]), ([12, 6], [6, 12]), ([6], [6]), ([14, 6], [6, 14]), ([13, 15, 6], [6, 13, 15]), ([6, 16, 3], [3, 6, 16]), ([3, 17], [3, 17])])
def impl_OrderOk.B4 : List Nat := [0, 1, 3, 7, 15, 31, 63, 127, 255, 127, 639, 2047, 4095, 8191, 127, 16511, 65535, 131071, 262143]
theorem impl_OrderOk.tab4 : rtab .any (opsOf Try.f74 4) = impl_OrderOk.T4 := by kernel_rfl
theorem impl_OrderOk.bits4 : waitsOk impl_OrderOk.T4.2 impl_OrderOk.B4 = true := by kernel_rfl
set_option maxHeartbeats 8000000 in
set_option maxRecDepth 100000 in
theorem impl_OrderOk.calls (k : Nat) (a0_0 : ByteArray) (a0_1 : ByteArray) (a0_2 : Int) (a0_3 : Int) (A0_4 : Option Addr) (c0_4 : Nat) (l0_4 : List (S35)) (a0_5 : Int) (a0_6 : Int) (a0_7 : Int) (a0_8 : Int) (A0_9 : Option Addr) (c0_9 : Nat) (l0_9 : List (S94)) (r : Bool) (w : World) (hr0_4 : Kd.C k35 w A0_4 l0_4.length l0_4) (hc0_4 : l0_4.length ≤ c0_4) (hr0_9 : Kd.C k94 w A0_9 l0_9.length l0_9) (hc0_9 : l0_9.length ≤ c0_9) (h : impl_OrderOk.f k a0_0 a0_1 a0_2 a0_3 l0_4 a0_5 a0_6 a0_7 a0_8 l0_9 = some r) :
    Calls Try.prog 74 #[.agg #[.string a0_0, .string a0_1, .int .i64 a0_2, .int .i64 a0_3, .slice A0_4 l0_4.length c0_4, .int .i64 a0_5, .int .i64 a0_6, .int .i64 a0_7, .int .i64 a0_8, .slice A0_9 l0_9.length c0_9]] w fun e w' => e = .returned (.bool r) ∧ Below w.heap.size w w' := by
  have hu65 := Try.underlying65
  have hu35 := Try.underlying35
  have hu25 := Try.underlying25
  have HR0_4 := Aside0.mk hr0_4
  have HC0_4 := Aside0.mk hc0_4
  clear hr0_4 hc0_4
  have HR0_9 := Aside0.mk hr0_9
  have HC0_9 := Aside0.mk hc0_9
  clear hr0_9 hc0_9
  have HB := Aside0.mk (Below.refl w.heap.size w)
  have H : (impl_OrderOk.l0 k l0_4 (l0_4.length : Int) 0 a0_0 a0_1 a0_2 a0_3 l0_4 a0_5 a0_6 a0_7 a0_8 l0_9) = some r := h
  clear h
  have H' := Aside0.mk H
  clear H
  go_enter Try.func74, Try.ntmps74
  go_wp2_with (first | ((with_reducible refine gate_dst (N := 1) rfl ?_); (try (refine gate_guard (by rfl) ?_; dsimp only)); refine box_event ?hg (N := 1) ?hd (cs := #[.string a0_0, .string a0_1, .int .i64 a0_2, .int .i64 a0_3, .slice A0_4 l0_4.length c0_4, .int .i64 a0_5, .int .i64 a0_6, .int .i64 a0_7, .int .i64 a0_8, .slice A0_9 l0_9.length c0_9]) (t := 65) ?hr ?_; (case hd => rfl); (case hg => rfl); (case hr => first | (go_simp; done) | (go_simp; rfl)); intro gb1034 hg w2 hbox hb; have n0_ := Aside0.mk (below_step (by repeat (first | (with_reducible first | exact HB.out | apply below_alloc | apply pw_below_drewN | apply below_drew1) | exact HB.out)) hb); have n1_ := Aside0.mk (hbox); have n2_ := Aside0.mk ((by rw [hg]; exact (below_size (by repeat (first | (with_reducible first | exact HB.out | apply below_alloc | apply pw_below_drewN | apply below_drew1) | exact HB.out))) : w.heap.size ≤ gb1034)); have n3_ := Aside0.mk ((by rw [hg]; exact (below_size (by repeat (first | (with_reducible first | exact HB.out | apply below_alloc | apply pw_below_drewN | apply below_drew1) | exact HB.out))) : w.heap.size ≤ gb1034)); clear HB; have HB := n0_; have BK1034 := n1_; have GW1034 := n2_; have GE1034 := n3_; clear n0_ n1_ n2_ n3_; clear hb hbox hg; have hcz3_0 : w2.cell? ⟨gb1034, 0, none⟩ = some (.string a0_0) := (blk_cell BK1034.out 0).trans rfl; have hcz3_1 : w2.cell? ⟨gb1034, 1, none⟩ = some (.string a0_1) := (blk_cell BK1034.out 1).trans rfl; have hcz3_2 : w2.cell? ⟨gb1034, 2, none⟩ = some (.int .i64 a0_2) := (blk_cell BK1034.out 2).trans rfl; have hcz3_3 : w2.cell? ⟨gb1034, 3, none⟩ = some (.int .i64 a0_3) := (blk_cell BK1034.out 3).trans rfl; have hcz3_4 : w2.cell? ⟨gb1034, 4, none⟩ = some (.slice A0_4 l0_4.length c0_4) := (blk_cell BK1034.out 4).trans rfl; have hcz3_5 : w2.cell? ⟨gb1034, 5, none⟩ = some (.int .i64 a0_5) := (blk_cell BK1034.out 5).trans rfl; have hcz3_6 : w2.cell? ⟨gb1034, 6, none⟩ = some (.int .i64 a0_6) := (blk_cell BK1034.out 6).trans rfl; have hcz3_7 : w2.cell? ⟨gb1034, 7, none⟩ = some (.int .i64 a0_7) := (blk_cell BK1034.out 7).trans rfl; have hcz3_8 : w2.cell? ⟨gb1034, 8, none⟩ = some (.int .i64 a0_8) := (blk_cell BK1034.out 8).trans rfl; have hcz3_9 : w2.cell? ⟨gb1034, 9, none⟩ = some (.slice A0_9 l0_9.length c0_9) := (blk_cell BK1034.out 9).trans rfl; have hfz3_0 := blk_frozen BK1034.out 0; have hfz3_1 := blk_frozen BK1034.out 1; have hfz3_2 := blk_frozen BK1034.out 2; have hfz3_3 := blk_frozen BK1034.out 3; have hfz3_4 := blk_frozen BK1034.out 4; have hfz3_5 := blk_frozen BK1034.out 5; have hfz3_6 := blk_frozen BK1034.out 6; have hfz3_7 := blk_frozen BK1034.out 7; have hfz3_8 := blk_frozen BK1034.out 8; have hfz3_9 := blk_frozen BK1034.out 9))
  go_loopg [8] k (fun kq v8 w' => ∃ (x8_1 : Int), v8 = .int .i64 x8_1 ∧ Aside0 (impl_OrderOk.l0 kq l0_4 (l0_4.length : Int) x8_1 a0_0 a0_1 a0_2 a0_3 l0_4 a0_5 a0_6 a0_7 a0_8 l0_9 = some r) ∧ Aside0 (kq ≤ k) ∧ Aside0 (w'.heap[gb1034]? = some (.cells #[.string a0_0, .string a0_1, .int .i64 a0_2, .int .i64 a0_3, (.slice A0_4 l0_4.length c0_4), .int .i64 a0_5, .int .i64 a0_6, .int .i64 a0_7, .int .i64 a0_8, (.slice A0_9 l0_9.length c0_9)] 65 (0, 0))) ∧ Aside0 (Below w.heap.size w w'))
  case atStart => exact ⟨(0), (by first | rfl | (simp; done) | (simp [*]; done)), H', ⟨Nat.le_refl _⟩, ⟨by (with_reducible repeat (first | refine blk_drewN ?_ _ | refine blk_drew ?_ | refine blk_alloc ?_ _)); exact BK1034.out⟩, ⟨by repeat (first | (with_reducible first | exact HB.out | apply below_alloc | apply pw_below_drewN | apply below_drew1 | refine below_set ?_ GE1034.out) | exact HB.out)⟩⟩
  case round =>
    clear H'
    try clear p2
    try clear hcz3_0
    try clear hcz3_1
    try clear hcz3_2
    try clear hcz3_3
    try clear hcz3_4
    try clear hcz3_5
    try clear hcz3_6
    try clear hcz3_7
    try clear hcz3_8
    try clear hcz3_9
    try clear hfz3_0
    try clear hfz3_1
    try clear hfz3_2
    try clear hfz3_3
    try clear hfz3_4
    try clear hfz3_5
    try clear hfz3_6
    try clear hfz3_7
    try clear hfz3_8
    try clear hfz3_9
    obtain ⟨x8_1, rfl, HA, HK1, BK1034, HB⟩ := hrel
    cases gk with
    | zero => exact absurd HA.out (by simp [impl_OrderOk.l0])
    | succ k1 =>
      have H := HA.out
      clear HA
      simp only [impl_OrderOk.l0] at H
      by_cases c4 : x8_1 < (l0_4.length : Int)
      · rw [if_pos c4] at H
        have c4b0 : decide (x8_1 < (l0_4.length : Int)) = true := decide_eq_true c4
        clear c4
        by_cases c5 : 0 ≤ x8_1
        · rw [if_pos c5] at H
          have c5b0 : decide (0 ≤ x8_1) = true := decide_eq_true c5
          clear c5
          by_cases c6 : x8_1 < (l0_4.length : Int)
          · rw [if_pos c6] at H
            have c6b0 : decide (x8_1 < (l0_4.length : Int)) = true := decide_eq_true c6
            clear c6
            replace H := Option.bind_eq_some_iff.mp H
            obtain ⟨t1037, A70, H⟩ := H
            replace H : (if t1037 = true then (if x8_1 > 0 then (if 0 ≤ (wrap64 (x8_1 - 1)) then (if (wrap64 (x8_1 - 1)) < (l0_4.length : Int) then (if ((Op.bytesLess (((rd_T35 l0_4 (wrap64 (x8_1 - 1))).f0).toList) (((rd_T35 l0_4 x8_1).f0).toList)) = true) then (impl_OrderOk.l0 k1 l0_4 (l0_4.length : Int) (wrap64 (x8_1 + 1)) a0_0 a0_1 a0_2 a0_3 l0_4 a0_5 a0_6 a0_7 a0_8 l0_9) else (some false)) else (none)) else (none)) else (impl_OrderOk.l0 k1 l0_4 (l0_4.length : Int) (wrap64 (x8_1 + 1)) a0_0 a0_1 a0_2 a0_3 l0_4 a0_5 a0_6 a0_7 a0_8 l0_9)) else (some false)) = some r := H
            have A7 := Aside0.mk A70
            clear A70
            by_cases c8 : t1037 = true
            · subst c8
              have H1 : (if x8_1 > 0 then (if 0 ≤ (wrap64 (x8_1 - 1)) then (if (wrap64 (x8_1 - 1)) < (l0_4.length : Int) then (if ((Op.bytesLess (((rd_T35 l0_4 (wrap64 (x8_1 - 1))).f0).toList) (((rd_T35 l0_4 x8_1).f0).toList)) = true) then (impl_OrderOk.l0 k1 l0_4 (l0_4.length : Int) (wrap64 (x8_1 + 1)) a0_0 a0_1 a0_2 a0_3 l0_4 a0_5 a0_6 a0_7 a0_8 l0_9) else (some false)) else (none)) else (none)) else (impl_OrderOk.l0 k1 l0_4 (l0_4.length : Int) (wrap64 (x8_1 + 1)) a0_0 a0_1 a0_2 a0_3 l0_4 a0_5 a0_6 a0_7 a0_8 l0_9)) = some r := by rw [if_pos rfl] at H; exact H
              clear H
              have H := H1
              clear H1
              by_cases c9 : x8_1 > 0
              · rw [if_pos c9] at H
                have c9b0 : decide (0 < x8_1) = true := decide_eq_true c9
                clear c9
                obtain ⟨ji10, hji10⟩ : ∃ j_ : Int, (wrap64 (x8_1 - 1)) = j_ := ⟨_, rfl⟩
                replace H : (if 0 ≤ (ji10) then (if (ji10) < (l0_4.length : Int) then (if ((Op.bytesLess (((rd_T35 l0_4 (ji10)).f0).toList) (((rd_T35 l0_4 x8_1).f0).toList)) = true) then (impl_OrderOk.l0 k1 l0_4 (l0_4.length : Int) (wrap64 (x8_1 + 1)) a0_0 a0_1 a0_2 a0_3 l0_4 a0_5 a0_6 a0_7 a0_8 l0_9) else (some false)) else (none)) else (none)) = some r := by first | (rw [hji10] at H; exact H) | (simp only [hji10] at H ⊢; exact H)
                (try rw [hji10] at A7)
                have hji10w : (IntKind.i64.wrap (x8_1 - 1)) = ji10 := (i64_w _).trans hji10
                by_cases c11 : 0 ≤ (ji10)
                · rw [if_pos c11] at H
                  have c11b0 : decide (0 ≤ (ji10)) = true := decide_eq_true c11
                  clear c11
                  by_cases c12 : (ji10) < (l0_4.length : Int)
                  · rw [if_pos c12] at H
                    have c12b0 : decide ((ji10) < (l0_4.length : Int)) = true := decide_eq_true c12
                    clear c12
                    have HC13 := Aside0.mk H
                    clear H
                    have p1035 : 0 ≤ (x8_1 : Int) := of_decide_eq_true (by first | (with_reducible assumption) | assumption)
                    have q1035 : x8_1 < (l0_4.length : Int) := of_decide_eq_true (by first | (with_reducible assumption) | assumption)
                    obtain ⟨ad1035, e1035, hx1035_0, hx1035_1, hx1035_2⟩ := at_T35 HR0_4.out x8_1 p1035 q1035
                    cases e1035
                    replace hx1035_0 := (HB.out.cell (World.block_lt_of_cell? w _ hx1035_0)).trans hx1035_0
                    replace hx1035_1 := (HB.out.cell (World.block_lt_of_cell? w _ hx1035_1)).trans hx1035_1
                    replace hx1035_2 := (HB.out.cell (World.block_lt_of_cell? w _ hx1035_2)).trans hx1035_2
                    replace p1035 := eq_true p1035
                    replace q1035 := eq_true q1035
                    try go_wp2_with (first | ((with_reducible refine gate_dst (N := 4) rfl ?_); (try (refine gate_guard (by rfl) ?_; dsimp only)); refine box_event ?hg (N := 4) ?hd (cs := #[.string (⟨#[]⟩ : ByteArray), .int .i64 0, .int .i64 0]) (t := 35) ?hr ?_; (case hd => rfl); (case hg => rfl); (case hr => first | (go_simp; done) | (go_simp; rfl)); intro gb1036 hg w14 hbox hb; have n0_ := Aside0.mk (blk_below (g := gb1034) (o := .cells #[.string a0_0, .string a0_1, .int .i64 a0_2, .int .i64 a0_3, .slice (some ad1035) l0_4.length c0_4, .int .i64 a0_5, .int .i64 a0_6, .int .i64 a0_7, .int .i64 a0_8, .slice A0_9 l0_9.length c0_9] 65 (0, 0)) (by (with_reducible repeat (first | refine blk_drewN ?_ _ | refine blk_drew ?_ | refine blk_alloc ?_ _)); exact BK1034.out) hb); have n1_ := Aside0.mk (below_step (by repeat (first | (with_reducible first | exact HB.out | apply below_alloc | apply pw_below_drewN | apply below_drew1 | refine below_set ?_ GE1034.out) | exact HB.out)) hb); have n2_ := Aside0.mk (hbox); have n3_ := Aside0.mk ((by rw [hg]; exact (below_size (by repeat (first | (with_reducible first | exact HB.out | apply below_alloc | apply pw_below_drewN | apply below_drew1 | refine below_set ?_ GE1034.out) | exact HB.out))) : w.heap.size ≤ gb1036)); have n4_ := Aside0.mk ((by rw [hg]; exact (below_size (by repeat (first | (with_reducible first | exact HB.out | apply below_alloc | apply pw_below_drewN | apply below_drew1 | refine below_set ?_ GE1034.out) | exact HB.out))) : w.heap.size ≤ gb1036)); have n5_ := Aside0.mk ((by rw [hg]; exact Nat.ne_of_lt (blk_lt (g := gb1034) (o := .cells #[.string a0_0, .string a0_1, .int .i64 a0_2, .int .i64 a0_3, .slice (some ad1035) l0_4.length c0_4, .int .i64 a0_5, .int .i64 a0_6, .int .i64 a0_7, .int .i64 a0_8, .slice A0_9 l0_9.length c0_9] 65 (0, 0)) (by (with_reducible repeat (first | refine blk_drewN ?_ _ | refine blk_drew ?_ | refine blk_alloc ?_ _)); exact BK1034.out)) : gb1034 ≠ gb1036)); have n6_ := Aside0.mk ((by rw [hg]; exact Nat.ne_of_gt (blk_lt (g := gb1034) (o := .cells #[.string a0_0, .string a0_1, .int .i64 a0_2, .int .i64 a0_3, .slice (some ad1035) l0_4.length c0_4, .int .i64 a0_5, .int .i64 a0_6, .int .i64 a0_7, .int .i64 a0_8, .slice A0_9 l0_9.length c0_9] 65 (0, 0)) (by (with_reducible repeat (first | refine blk_drewN ?_ _ | refine blk_drew ?_ | refine blk_alloc ?_ _)); exact BK1034.out)) : gb1036 ≠ gb1034)); clear BK1034; clear HB; have BK1034 := n0_; have HB := n1_; have BK1036 := n2_; have GW1036 := n3_; have GE1036 := n4_; have NB1034_1036 := n5_; have NB1036_1034 := n6_; clear n0_ n1_ n2_ n3_ n4_ n5_ n6_; clear hb hbox hg; have hnb15 := NB1036_1034.out; have hnc15 := NB1034_1036.out; have hcz16_0 : w14.cell? ⟨gb1036, 0, none⟩ = some (.string (⟨#[]⟩ : ByteArray)) := (blk_cell BK1036.out 0).trans rfl; have hcz16_1 : w14.cell? ⟨gb1036, 1, none⟩ = some (.int .i64 0) := (blk_cell BK1036.out 1).trans rfl; have hcz16_2 : w14.cell? ⟨gb1036, 2, none⟩ = some (.int .i64 0) := (blk_cell BK1036.out 2).trans rfl; have hfz16_0 := blk_frozen BK1036.out 0; have hfz16_1 := blk_frozen BK1036.out 1; have hfz16_2 := blk_frozen BK1036.out 2))
                    have n0_ : Aside0 ((((w14.setCell ⟨gb1036, 0, none⟩ (.string ((rd_T35 l0_4 x8_1).f0))).setCell ⟨gb1036, 1, none⟩ (.int .i64 ((rd_T35 l0_4 x8_1).f1))).setCell ⟨gb1036, 2, none⟩ (.int .i64 ((rd_T35 l0_4 x8_1).f2))).heap[gb1034]? = some (.cells #[.string a0_0, .string a0_1, .int .i64 a0_2, .int .i64 a0_3, .slice (some ad1035) l0_4.length c0_4, .int .i64 a0_5, .int .i64 a0_6, .int .i64 a0_7, .int .i64 a0_8, .slice A0_9 l0_9.length c0_9] 65 (0, 0))) := ⟨by (with_reducible repeat (first | refine blk_drewN ?_ _ | refine blk_drew ?_ | refine blk_alloc ?_ _)); refine blk_far ?_ NB1034_1036.out _; (with_reducible repeat (first | refine blk_drewN ?_ _ | refine blk_drew ?_ | refine blk_alloc ?_ _)); refine blk_far ?_ NB1034_1036.out _; (with_reducible repeat (first | refine blk_drewN ?_ _ | refine blk_drew ?_ | refine blk_alloc ?_ _)); refine blk_far ?_ NB1034_1036.out _; (with_reducible repeat (first | refine blk_drewN ?_ _ | refine blk_drew ?_ | refine blk_alloc ?_ _)); exact BK1034.out⟩
                    have n1_ : Aside0 ((((w14.setCell ⟨gb1036, 0, none⟩ (.string ((rd_T35 l0_4 x8_1).f0))).setCell ⟨gb1036, 1, none⟩ (.int .i64 ((rd_T35 l0_4 x8_1).f1))).setCell ⟨gb1036, 2, none⟩ (.int .i64 ((rd_T35 l0_4 x8_1).f2))).heap[gb1036]? = some (.cells #[.string ((rd_T35 l0_4 x8_1).f0), .int .i64 ((rd_T35 l0_4 x8_1).f1), .int .i64 ((rd_T35 l0_4 x8_1).f2)] 35 (0, 0))) := ⟨by (with_reducible repeat (first | refine blk_drewN ?_ _ | refine blk_drew ?_ | refine blk_alloc ?_ _)); refine blk_put (cs := #[.string ((rd_T35 l0_4 x8_1).f0), .int .i64 ((rd_T35 l0_4 x8_1).f1), .int .i64 0]) ?_ 2 _ rfl; (with_reducible repeat (first | refine blk_drewN ?_ _ | refine blk_drew ?_ | refine blk_alloc ?_ _)); refine blk_put (cs := #[.string ((rd_T35 l0_4 x8_1).f0), .int .i64 0, .int .i64 0]) ?_ 1 _ rfl; (with_reducible repeat (first | refine blk_drewN ?_ _ | refine blk_drew ?_ | refine blk_alloc ?_ _)); refine blk_put (cs := #[.string (⟨#[]⟩ : ByteArray), .int .i64 0, .int .i64 0]) ?_ 0 _ rfl; (with_reducible repeat (first | refine blk_drewN ?_ _ | refine blk_drew ?_ | refine blk_alloc ?_ _)); exact BK1036.out⟩
                    have n2_ : Aside0 (Below w.heap.size w (((w14.setCell ⟨gb1036, 0, none⟩ (.string ((rd_T35 l0_4 x8_1).f0))).setCell ⟨gb1036, 1, none⟩ (.int .i64 ((rd_T35 l0_4 x8_1).f1))).setCell ⟨gb1036, 2, none⟩ (.int .i64 ((rd_T35 l0_4 x8_1).f2)))) := ⟨by repeat (first | (with_reducible first | exact HB.out | apply below_alloc | apply pw_below_drewN | apply below_drew1 | refine below_set ?_ GE1034.out | refine below_set ?_ GE1036.out) | exact HB.out)⟩
                    (try clear BK1034)
                    (try clear BK1036)
                    (try clear HB)
                    generalize (((w14.setCell ⟨gb1036, 0, none⟩ (.string ((rd_T35 l0_4 x8_1).f0))).setCell ⟨gb1036, 1, none⟩ (.int .i64 ((rd_T35 l0_4 x8_1).f1))).setCell ⟨gb1036, 2, none⟩ (.int .i64 ((rd_T35 l0_4 x8_1).f2))) = w17 at n0_ n1_ n2_ ⊢
                    have BK1034 := n0_
                    have BK1036 := n1_
                    have HB := n2_
                    clear n0_ n1_ n2_
                    have n0_ := Aside0.mk (blk_drew BK1034.out)
                    have n1_ := Aside0.mk (blk_drew BK1036.out)
                    have n2_ := Aside0.mk (below_drew1 HB.out)
                    clear BK1034
                    clear BK1036
                    clear HB
                    have BK1034 := n0_
                    have BK1036 := n1_
                    have HB := n2_
                    clear n0_ n1_ n2_
                    have p1038 : 0 ≤ ((ji10) : Int) := of_decide_eq_true (by first | (with_reducible assumption) | assumption)
                    have q1038 : (ji10) < (l0_4.length : Int) := of_decide_eq_true (by first | (with_reducible assumption) | assumption)
                    obtain ⟨ad1038, e1038, hx1038_0, hx1038_1, hx1038_2⟩ := at_T35 HR0_4.out (ji10) p1038 q1038
                    have hw1038_2 := hx1038_2
                    have hw1038_1 := hx1038_1
                    have hw1038_0 := hx1038_0
                    obtain rfl : ad1035 = ad1038 := (by injection e1038)
                    replace hx1038_0 := (HB.out.cell (World.block_lt_of_cell? w _ hx1038_0)).trans hx1038_0
                    replace hx1038_1 := (HB.out.cell (World.block_lt_of_cell? w _ hx1038_1)).trans hx1038_1
                    replace hx1038_2 := (HB.out.cell (World.block_lt_of_cell? w _ hx1038_2)).trans hx1038_2
                    replace p1038 := eq_true p1038
                    replace q1038 := eq_true q1038
                    refine start_ (n := 19) (S := fun w' => w'.cell? ⟨gb1036, 0, none⟩ = some (.string ((rd_T35 l0_4 x8_1).f0)) ∧ w'.cell? ⟨gb1036, 1, none⟩ = some (.int .i64 ((rd_T35 l0_4 x8_1).f1)) ∧ w'.cell? ⟨gb1036, 2, none⟩ = some (.int .i64 ((rd_T35 l0_4 x8_1).f2)) ∧ w'.cell? ⟨gb1034, 0, none⟩ = some (.string a0_0) ∧ w'.cell? ⟨gb1034, 1, none⟩ = some (.string a0_1) ∧ w'.cell? ⟨gb1034, 2, none⟩ = some (.int .i64 a0_2) ∧ w'.cell? ⟨gb1034, 3, none⟩ = some (.int .i64 a0_3) ∧ w'.cell? ⟨gb1034, 4, none⟩ = some (.slice (some ad1035) l0_4.length c0_4) ∧ w'.cell? ⟨gb1034, 5, none⟩ = some (.int .i64 a0_5) ∧ w'.cell? ⟨gb1034, 6, none⟩ = some (.int .i64 a0_6) ∧ w'.cell? ⟨gb1034, 7, none⟩ = some (.int .i64 a0_7) ∧ w'.cell? ⟨gb1034, 8, none⟩ = some (.int .i64 a0_8) ∧ w'.cell? ⟨gb1034, 9, none⟩ = some (.slice A0_9 l0_9.length c0_9) ∧ w'.cell? (ad1035.add (((ji10)).toNat * 3)) = some (.string ((rd_T35 l0_4 (ji10)).f0)) ∧ w'.cell? ⟨(ad1035.add (((ji10)).toNat * 3)).block, (ad1035.add (((ji10)).toNat * 3)).off + 1, none⟩ = some (.int .i64 ((rd_T35 l0_4 (ji10)).f1)) ∧ w'.cell? ⟨(ad1035.add (((ji10)).toNat * 3)).block, (ad1035.add (((ji10)).toNat * 3)).off + 2, none⟩ = some (.int .i64 ((rd_T35 l0_4 (ji10)).f2))) (ds := []) #[false, false, false, false, false, false, false, false, false, false, false, false, false, false, false, false, false, false, false] (by kernel_rfl) rfl rfl ⟨(blk_cell BK1036.out 0).trans rfl, (blk_cell BK1036.out 1).trans rfl, (blk_cell BK1036.out 2).trans rfl, (blk_cell BK1034.out 0).trans rfl, (blk_cell BK1034.out 1).trans rfl, (blk_cell BK1034.out 2).trans rfl, (blk_cell BK1034.out 3).trans rfl, (blk_cell BK1034.out 4).trans rfl, (blk_cell BK1034.out 5).trans rfl, (blk_cell BK1034.out 6).trans rfl, (blk_cell BK1034.out 7).trans rfl, (blk_cell BK1034.out 8).trans rfl, (blk_cell BK1034.out 9).trans rfl, ((HB.out.cell (World.block_lt_of_cell? w _ hw1038_0)).trans hw1038_0), ((HB.out.cell (World.block_lt_of_cell? w _ hw1038_1)).trans hw1038_1), ((HB.out.cell (World.block_lt_of_cell? w _ hw1038_2)).trans hw1038_2)⟩ (fun hHeld => ?_); refine with_tabW impl_OrderOk.tab4 impl_OrderOk.bits4 (fun HT_ HW_ => ?_)
                    generalize w17.drew = w18 at BK1034 BK1036 HB hx1038_0 hx1038_1 hx1038_2 hHeld ⊢
                    refine take_ (i := 0) (N := some 13) (v := ?_) (a' := ?_) (bs_ 19 1) rfl rfl (take_ofW HT_.out HW_.out (by kernel_rfl)) (fun _ _ _ h => h) (Or.inl ⟨by rfl, ?_⟩) hHeld ?_ ?_
                    rotate_left
                    · rintro w' ⟨s0, s1, s2, s3, s4, s5, s6, s7, s8, s9, s10, s11, s12, s13, s14, s15⟩
                      go_simp
                      (first | with_reducible rfl | rfl)
                    rotate_left
                    · simp only [Act.put, List.setIfInBounds_toArray, List.set_cons_zero, List.set_cons_succ, i64_w, i32_w]
                      rfl
                    refine one_ (i := 1) (N := some 14) (bs_ 19 3) rfl rfl (one_of HT_.out (by kernel_rfl)) (by decide) (fun K hK => ?_)
                    refine goes_ Try.func32 (by kernel_rfl) rfl #[.agg #[.string ((rd_T35 l0_4 x8_1).f0), .int .i64 ((rd_T35 l0_4 x8_1).f1), .int .i64 ((rd_T35 l0_4 x8_1).f2)]] (by rfl) rfl rfl (by (try simp only [List.map_toArray, List.map_cons, List.map_nil]); first | done | rfl | (simp only [List.length_drop, List.length_take]; rfl)) ?_
                    with_reducible refine (impl_MetricOk.calls k1 ((rd_T35 l0_4 x8_1).f0) ((rd_T35 l0_4 x8_1).f1) ((rd_T35 l0_4 x8_1).f2) true _ A7.out).mono ?_
                    rintro e w19 ⟨rfl, hb⟩
                    refine ⟨_, rfl, ?_⟩
                    have n0_ := Aside0.mk (blk_below (g := gb1034) (o := .cells #[.string a0_0, .string a0_1, .int .i64 a0_2, .int .i64 a0_3, .slice (some ad1035) l0_4.length c0_4, .int .i64 a0_5, .int .i64 a0_6, .int .i64 a0_7, .int .i64 a0_8, .slice A0_9 l0_9.length c0_9] 65 (0, 0)) (by (with_reducible repeat (first | refine blk_drewN ?_ _ | refine blk_drew ?_ | refine blk_alloc ?_ _)); exact BK1034.out) hb)
                    have n1_ := Aside0.mk (blk_below (g := gb1036) (o := .cells #[.string ((rd_T35 l0_4 x8_1).f0), .int .i64 ((rd_T35 l0_4 x8_1).f1), .int .i64 ((rd_T35 l0_4 x8_1).f2)] 35 (0, 0)) (by (with_reducible repeat (first | refine blk_drewN ?_ _ | refine blk_drew ?_ | refine blk_alloc ?_ _)); exact BK1036.out) hb)
                    have n2_ := Aside0.mk (below_step (by repeat (first | (with_reducible first | exact HB.out | apply below_alloc | apply pw_below_drewN | apply below_drew1 | refine below_set ?_ GE1034.out | refine below_set ?_ GE1036.out) | exact HB.out)) hb)
                    clear BK1034
                    clear BK1036
                    clear HB
                    have BK1034 := n0_
                    have BK1036 := n1_
                    have HB := n2_
                    clear n0_ n1_ n2_
                    (try clear hb)
                    (try clear hb2)
                    (try clear hk)
                    (try clear hi)
                    refine hK.out _ _ ⟨(blk_cell BK1036.out 0).trans rfl, (blk_cell BK1036.out 1).trans rfl, (blk_cell BK1036.out 2).trans rfl, (blk_cell BK1034.out 0).trans rfl, (blk_cell BK1034.out 1).trans rfl, (blk_cell BK1034.out 2).trans rfl, (blk_cell BK1034.out 3).trans rfl, (blk_cell BK1034.out 4).trans rfl, (blk_cell BK1034.out 5).trans rfl, (blk_cell BK1034.out 6).trans rfl, (blk_cell BK1034.out 7).trans rfl, (blk_cell BK1034.out 8).trans rfl, (blk_cell BK1034.out 9).trans rfl, ((HB.out.cell (World.block_lt_of_cell? w _ hw1038_0)).trans hw1038_0), ((HB.out.cell (World.block_lt_of_cell? w _ hw1038_1)).trans hw1038_1), ((HB.out.cell (World.block_lt_of_cell? w _ hw1038_2)).trans hw1038_2)⟩ (fun hHeld => ?_)
                    clear hK K
                    refine norm_ (a' := ?_) ?_ ?_
                    rotate_left
                    · show Act.put _ (some 14) _ = _
                      simp only [Act.put, List.setIfInBounds_toArray, List.set_cons_zero, List.set_cons_succ, i64_w, i32_w]
                      rfl
                    refine pure_ (i := 2) (N := some 15) (v := _) (a' := _) (bs_ 19 7) rfl rfl (any_of HT_.out (by kernel_rfl)) (fun _ _ _ h => h) (Or.inl ⟨by rfl, by intro w'; go_simp; first | with_reducible rfl | rfl⟩) (by simp only [Act.put, List.setIfInBounds_toArray, List.set_cons_zero, List.set_cons_succ, i64_w, i32_w]; rfl) ?_
                    refine pure_ (i := 3) (N := some 16) (v := _) (a' := _) (bs_ 19 15) rfl rfl (any_of HT_.out (by kernel_rfl)) (fun _ _ _ h => h) (Or.inl ⟨by rfl, by intro w'; go_simp; first | with_reducible rfl | rfl⟩) (by simp only [Act.put, List.setIfInBounds_toArray, List.set_cons_zero, List.set_cons_succ, i64_w, i32_w]; rfl) ?_
                    refine pure_ (i := 4) (N := some 17) (v := _) (a' := _) (bs_ 19 31) rfl rfl (any_of HT_.out (by kernel_rfl)) (fun _ _ _ h => h) (Or.inl ⟨by rfl, by intro w'; go_simp; first | with_reducible rfl | rfl⟩) (by simp only [Act.put, List.setIfInBounds_toArray, List.set_cons_zero, List.set_cons_succ, i64_w, i32_w]; rfl) ?_
                    refine pure_ (i := 5) (N := some 18) (v := _) (a' := _) (bs_ 19 63) rfl rfl (any_of HT_.out (by kernel_rfl)) (fun _ _ _ h => h) (Or.inl ⟨by rfl, by intro w'; go_simp; first | with_reducible rfl | rfl⟩) (by simp only [Act.put, List.setIfInBounds_toArray, List.set_cons_zero, List.set_cons_succ, i64_w, i32_w]; rfl) ?_
                    refine pure_ (i := 6) (N := some 19) (v := _) (a' := _) (bs_ 19 127) rfl rfl (any_of HT_.out (by kernel_rfl)) (fun _ _ _ h => h) (Or.inl ⟨by rfl, by intro w'; go_simp; first | with_reducible rfl | rfl⟩) (by simp only [Act.put, List.setIfInBounds_toArray, List.set_cons_zero, List.set_cons_succ, i64_w, i32_w]; rfl) ?_
                    refine pure_ (i := 7) (N := some 20) (v := _) (a' := _) (bs_ 19 255) rfl rfl (any_of HT_.out (by kernel_rfl)) (fun _ _ _ h => h) (Or.inl ⟨by rfl, by intro w'; go_simp; first | with_reducible rfl | rfl⟩) (by simp only [Act.put, List.setIfInBounds_toArray, List.set_cons_zero, List.set_cons_succ, i64_w, i32_w]; rfl) ?_
                    refine pure_ (i := 9) (N := some 22) (v := _) (a' := _) (bs_ 19 767) rfl rfl (any_of HT_.out (by kernel_rfl)) (fun _ _ _ h => h) (Or.inl ⟨by rfl, by intro w'; go_simp; first | with_reducible rfl | rfl⟩) (by simp only [Act.put, List.setIfInBounds_toArray, List.set_cons_zero, List.set_cons_succ, i64_w, i32_w]; rfl) ?_
                    refine pure_ (i := 10) (N := some 23) (v := _) (a' := _) (bs_ 19 1791) rfl rfl (any_of HT_.out (by kernel_rfl)) (fun _ _ _ h => h) (Or.inl ⟨by rfl, by intro w'; go_simp; first | with_reducible rfl | rfl⟩) (by simp only [Act.put, List.setIfInBounds_toArray, List.set_cons_zero, List.set_cons_succ, i64_w, i32_w]; rfl) ?_
                    refine pure_ (i := 14) (N := some 27) (v := _) (a' := _) (bs_ 19 18175) rfl rfl (any_of HT_.out (by kernel_rfl)) (fun _ _ _ h => h) (Or.inl ⟨by rfl, by intro w'; go_simp; first | with_reducible rfl | rfl⟩) (by simp only [Act.put, List.setIfInBounds_toArray, List.set_cons_zero, List.set_cons_succ, i64_w, i32_w]; rfl) ?_
                    refine take_ (i := 8) (N := some 21) (v := ?_) (a' := ?_) (bs_ 19 18431) rfl rfl (take_ofW HT_.out HW_.out (by kernel_rfl)) (fun _ _ _ h => h) (Or.inl ⟨by rfl, ?_⟩) hHeld ?_ ?_
                    rotate_left
                    · rintro w' ⟨s0, s1, s2, s3, s4, s5, s6, s7, s8, s9, s10, s11, s12, s13, s14, s15⟩
                      go_simp
                      (first | with_reducible rfl | rfl)
                    rotate_left
                    · simp only [Act.put, List.setIfInBounds_toArray, List.set_cons_zero, List.set_cons_succ, i64_w, i32_w]
                      rfl
                    refine pure_ (i := 11) (N := some 24) (v := _) (a' := _) (bs_ 19 20479) rfl rfl (any_of HT_.out (by kernel_rfl)) (fun _ _ _ h => h) (Or.inl ⟨by rfl, by intro w'; go_simp; first | with_reducible rfl | rfl⟩) (by simp only [Act.put, List.setIfInBounds_toArray, List.set_cons_zero, List.set_cons_succ, i64_w, i32_w]; rfl) ?_
                    refine pure_ (i := 12) (N := some 25) (v := _) (a' := _) (bs_ 19 24575) rfl rfl (any_of HT_.out (by kernel_rfl)) (fun _ _ _ h => h) (Or.inl ⟨by rfl, by intro w'; go_simp; first | with_reducible rfl | rfl⟩) (by simp only [Act.put, List.setIfInBounds_toArray, List.set_cons_zero, List.set_cons_succ, i64_w, i32_w]; rfl) ?_
                    refine take_ (i := 13) (N := some 26) (v := ?_) (a' := ?_) (bs_ 19 32767) rfl rfl (take_ofW HT_.out HW_.out (by kernel_rfl)) (fun _ _ _ h => h) (Or.inl ⟨by rfl, ?_⟩) hHeld ?_ ?_
                    rotate_left
                    · rintro w' ⟨s0, s1, s2, s3, s4, s5, s6, s7, s8, s9, s10, s11, s12, s13, s14, s15⟩
                      go_simp
                      (first | with_reducible rfl | rfl)
                    rotate_left
                    · simp only [Act.put, List.setIfInBounds_toArray, List.set_cons_zero, List.set_cons_succ, i64_w, i32_w]
                      rfl
                    refine take_ (i := 15) (N := some 28) (v := ?_) (a' := ?_) (bs_ 19 65535) rfl rfl (take_ofW HT_.out HW_.out (by kernel_rfl)) (fun _ _ _ h => h) (Or.inl ⟨by rfl, ?_⟩) hHeld ?_ ?_
                    rotate_left
                    · rintro w' ⟨s0, s1, s2, s3, s4, s5, s6, s7, s8, s9, s10, s11, s12, s13, s14, s15⟩
                      go_simp
                      (first | with_reducible rfl | rfl)
                    rotate_left
                    · simp only [Act.put, List.setIfInBounds_toArray, List.set_cons_zero, List.set_cons_succ, i64_w, i32_w]
                      rfl
                    refine pure_ (i := 16) (N := some 29) (v := _) (a' := _) (bs_ 19 131071) rfl rfl (any_of HT_.out (by kernel_rfl)) (fun _ _ _ h => h) (Or.inl ⟨by rfl, by intro w'; go_simp; first | with_reducible rfl | rfl⟩) (by simp only [Act.put, List.setIfInBounds_toArray, List.set_cons_zero, List.set_cons_succ, i64_w, i32_w]; rfl) ?_
                    refine pure_ (i := 17) (N := some 30) (v := _) (a' := _) (bs_ 19 262143) rfl rfl (any_of HT_.out (by kernel_rfl)) (fun _ _ _ h => h) (Or.inl ⟨by rfl, by intro w'; go_simp; first | with_reducible rfl | rfl⟩) (by simp only [Act.put, List.setIfInBounds_toArray, List.set_cons_zero, List.set_cons_succ, i64_w, i32_w]; rfl) ?_
                    refine pure_ (i := 18) (N := some 31) (v := _) (a' := _) (bs_ 19 524287) rfl rfl (any_of HT_.out (by kernel_rfl)) (fun _ _ _ h => h) (Or.inl ⟨by rfl, by intro w'; go_simp; first | with_reducible rfl | rfl⟩) (by simp only [Act.put, List.setIfInBounds_toArray, List.set_cons_zero, List.set_cons_succ, i64_w, i32_w]; rfl) ?_
                    refine done_ (done_of HT_.out (by kernel_rfl)) ?_
                    go_upto_if 31 with (fail)
                    have H := HC13.out
                    clear HC13
                    by_cases c20 : ((Op.bytesLess (((rd_T35 l0_4 (ji10)).f0).toList) (((rd_T35 l0_4 x8_1).f0).toList)) = true)
                    · rw [if_pos c20] at H
                      have c20b0 : (Op.bytesLess (((rd_T35 l0_4 (ji10)).f0).toList) (((rd_T35 l0_4 x8_1).f0).toList)) = true := c20
                      clear c20
                      (first | rw [c20b0] | (simp only [i64_w, i32_w]; rw [c20b0]) | skip)
                      have H' := Aside0.mk H
                      clear H
                      go_wp2
                      go_roundg k1
                      case measure => have := HK1.out; omega
                      case rel => exact ⟨(wrap64 (x8_1 + 1)), (by first | rfl | (simp; done) | (simp [*]; done)), H', ⟨by have := HK1.out; omega⟩, ⟨by (with_reducible repeat (first | refine blk_drewN ?_ _ | refine blk_drew ?_ | refine blk_alloc ?_ _)); exact BK1034.out⟩, ⟨by repeat (first | (with_reducible first | exact HB.out | apply below_alloc | apply pw_below_drewN | apply below_drew1 | refine below_set ?_ GE1034.out | refine below_set ?_ GE1036.out) | exact HB.out)⟩⟩
                    · rw [if_neg c20] at H
                      have c20b0 : (Op.bytesLess (((rd_T35 l0_4 (ji10)).f0).toList) (((rd_T35 l0_4 x8_1).f0).toList)) = false := by simpa using c20
                      clear c20
                      (first | rw [c20b0] | (simp only [i64_w, i32_w]; rw [c20b0]) | skip)
                      obtain rfl := Option.some.inj H
                      go_wp2
                      go_ret
                      exact ⟨by first | rfl | (simp [errW_none, errW_some] <;> rfl) | (simp only [← hji10]; first | rfl | (simp [errW_none, errW_some] <;> rfl)) | (simp [*, errW_none, errW_some] <;> rfl), by repeat (first | (with_reducible first | exact HB.out | apply below_alloc | apply pw_below_drewN | apply below_drew1 | refine below_set ?_ GE1034.out | refine below_set ?_ GE1036.out) | exact HB.out)⟩
                  · rw [if_neg c12] at H
                    exact absurd H (by simp)
                · rw [if_neg c11] at H
                  exact absurd H (by simp)
              · rw [if_neg c9] at H
                have c9b0 : decide (0 < x8_1) = false := decide_eq_false c9
                clear c9
                have H' := Aside0.mk H
                clear H
                have p1035 : 0 ≤ (x8_1 : Int) := of_decide_eq_true (by first | (with_reducible assumption) | assumption)
                have q1035 : x8_1 < (l0_4.length : Int) := of_decide_eq_true (by first | (with_reducible assumption) | assumption)
                obtain ⟨ad1035, e1035, hx1035_0, hx1035_1, hx1035_2⟩ := at_T35 HR0_4.out x8_1 p1035 q1035
                cases e1035
                replace hx1035_0 := (HB.out.cell (World.block_lt_of_cell? w _ hx1035_0)).trans hx1035_0
                replace hx1035_1 := (HB.out.cell (World.block_lt_of_cell? w _ hx1035_1)).trans hx1035_1
                replace hx1035_2 := (HB.out.cell (World.block_lt_of_cell? w _ hx1035_2)).trans hx1035_2
                replace p1035 := eq_true p1035
                replace q1035 := eq_true q1035
                try go_wp2_with (first | ((with_reducible refine gate_dst (N := 4) rfl ?_); (try (refine gate_guard (by rfl) ?_; dsimp only)); refine box_event ?hg (N := 4) ?hd (cs := #[.string (⟨#[]⟩ : ByteArray), .int .i64 0, .int .i64 0]) (t := 35) ?hr ?_; (case hd => rfl); (case hg => rfl); (case hr => first | (go_simp; done) | (go_simp; rfl)); intro gb1036 hg w21 hbox hb; have n0_ := Aside0.mk (blk_below (g := gb1034) (o := .cells #[.string a0_0, .string a0_1, .int .i64 a0_2, .int .i64 a0_3, .slice (some ad1035) l0_4.length c0_4, .int .i64 a0_5, .int .i64 a0_6, .int .i64 a0_7, .int .i64 a0_8, .slice A0_9 l0_9.length c0_9] 65 (0, 0)) (by (with_reducible repeat (first | refine blk_drewN ?_ _ | refine blk_drew ?_ | refine blk_alloc ?_ _)); exact BK1034.out) hb); have n1_ := Aside0.mk (below_step (by repeat (first | (with_reducible first | exact HB.out | apply below_alloc | apply pw_below_drewN | apply below_drew1 | refine below_set ?_ GE1034.out) | exact HB.out)) hb); have n2_ := Aside0.mk (hbox); have n3_ := Aside0.mk ((by rw [hg]; exact (below_size (by repeat (first | (with_reducible first | exact HB.out | apply below_alloc | apply pw_below_drewN | apply below_drew1 | refine below_set ?_ GE1034.out) | exact HB.out))) : w.heap.size ≤ gb1036)); have n4_ := Aside0.mk ((by rw [hg]; exact (below_size (by repeat (first | (with_reducible first | exact HB.out | apply below_alloc | apply pw_below_drewN | apply below_drew1 | refine below_set ?_ GE1034.out) | exact HB.out))) : w.heap.size ≤ gb1036)); have n5_ := Aside0.mk ((by rw [hg]; exact Nat.ne_of_lt (blk_lt (g := gb1034) (o := .cells #[.string a0_0, .string a0_1, .int .i64 a0_2, .int .i64 a0_3, .slice (some ad1035) l0_4.length c0_4, .int .i64 a0_5, .int .i64 a0_6, .int .i64 a0_7, .int .i64 a0_8, .slice A0_9 l0_9.length c0_9] 65 (0, 0)) (by (with_reducible repeat (first | refine blk_drewN ?_ _ | refine blk_drew ?_ | refine blk_alloc ?_ _)); exact BK1034.out)) : gb1034 ≠ gb1036)); have n6_ := Aside0.mk ((by rw [hg]; exact Nat.ne_of_gt (blk_lt (g := gb1034) (o := .cells #[.string a0_0, .string a0_1, .int .i64 a0_2, .int .i64 a0_3, .slice (some ad1035) l0_4.length c0_4, .int .i64 a0_5, .int .i64 a0_6, .int .i64 a0_7, .int .i64 a0_8, .slice A0_9 l0_9.length c0_9] 65 (0, 0)) (by (with_reducible repeat (first | refine blk_drewN ?_ _ | refine blk_drew ?_ | refine blk_alloc ?_ _)); exact BK1034.out)) : gb1036 ≠ gb1034)); clear BK1034; clear HB; have BK1034 := n0_; have HB := n1_; have BK1036 := n2_; have GW1036 := n3_; have GE1036 := n4_; have NB1034_1036 := n5_; have NB1036_1034 := n6_; clear n0_ n1_ n2_ n3_ n4_ n5_ n6_; clear hb hbox hg; have hnb22 := NB1036_1034.out; have hnc22 := NB1034_1036.out; have hcz23_0 : w21.cell? ⟨gb1036, 0, none⟩ = some (.string (⟨#[]⟩ : ByteArray)) := (blk_cell BK1036.out 0).trans rfl; have hcz23_1 : w21.cell? ⟨gb1036, 1, none⟩ = some (.int .i64 0) := (blk_cell BK1036.out 1).trans rfl; have hcz23_2 : w21.cell? ⟨gb1036, 2, none⟩ = some (.int .i64 0) := (blk_cell BK1036.out 2).trans rfl; have hfz23_0 := blk_frozen BK1036.out 0; have hfz23_1 := blk_frozen BK1036.out 1; have hfz23_2 := blk_frozen BK1036.out 2))
                have n0_ : Aside0 ((((w21.setCell ⟨gb1036, 0, none⟩ (.string ((rd_T35 l0_4 x8_1).f0))).setCell ⟨gb1036, 1, none⟩ (.int .i64 ((rd_T35 l0_4 x8_1).f1))).setCell ⟨gb1036, 2, none⟩ (.int .i64 ((rd_T35 l0_4 x8_1).f2))).heap[gb1034]? = some (.cells #[.string a0_0, .string a0_1, .int .i64 a0_2, .int .i64 a0_3, .slice (some ad1035) l0_4.length c0_4, .int .i64 a0_5, .int .i64 a0_6, .int .i64 a0_7, .int .i64 a0_8, .slice A0_9 l0_9.length c0_9] 65 (0, 0))) := ⟨by (with_reducible repeat (first | refine blk_drewN ?_ _ | refine blk_drew ?_ | refine blk_alloc ?_ _)); refine blk_far ?_ NB1034_1036.out _; (with_reducible repeat (first | refine blk_drewN ?_ _ | refine blk_drew ?_ | refine blk_alloc ?_ _)); refine blk_far ?_ NB1034_1036.out _; (with_reducible repeat (first | refine blk_drewN ?_ _ | refine blk_drew ?_ | refine blk_alloc ?_ _)); refine blk_far ?_ NB1034_1036.out _; (with_reducible repeat (first | refine blk_drewN ?_ _ | refine blk_drew ?_ | refine blk_alloc ?_ _)); exact BK1034.out⟩
                have n1_ : Aside0 ((((w21.setCell ⟨gb1036, 0, none⟩ (.string ((rd_T35 l0_4 x8_1).f0))).setCell ⟨gb1036, 1, none⟩ (.int .i64 ((rd_T35 l0_4 x8_1).f1))).setCell ⟨gb1036, 2, none⟩ (.int .i64 ((rd_T35 l0_4 x8_1).f2))).heap[gb1036]? = some (.cells #[.string ((rd_T35 l0_4 x8_1).f0), .int .i64 ((rd_T35 l0_4 x8_1).f1), .int .i64 ((rd_T35 l0_4 x8_1).f2)] 35 (0, 0))) := ⟨by (with_reducible repeat (first | refine blk_drewN ?_ _ | refine blk_drew ?_ | refine blk_alloc ?_ _)); refine blk_put (cs := #[.string ((rd_T35 l0_4 x8_1).f0), .int .i64 ((rd_T35 l0_4 x8_1).f1), .int .i64 0]) ?_ 2 _ rfl; (with_reducible repeat (first | refine blk_drewN ?_ _ | refine blk_drew ?_ | refine blk_alloc ?_ _)); refine blk_put (cs := #[.string ((rd_T35 l0_4 x8_1).f0), .int .i64 0, .int .i64 0]) ?_ 1 _ rfl; (with_reducible repeat (first | refine blk_drewN ?_ _ | refine blk_drew ?_ | refine blk_alloc ?_ _)); refine blk_put (cs := #[.string (⟨#[]⟩ : ByteArray), .int .i64 0, .int .i64 0]) ?_ 0 _ rfl; (with_reducible repeat (first | refine blk_drewN ?_ _ | refine blk_drew ?_ | refine blk_alloc ?_ _)); exact BK1036.out⟩
                have n2_ : Aside0 (Below w.heap.size w (((w21.setCell ⟨gb1036, 0, none⟩ (.string ((rd_T35 l0_4 x8_1).f0))).setCell ⟨gb1036, 1, none⟩ (.int .i64 ((rd_T35 l0_4 x8_1).f1))).setCell ⟨gb1036, 2, none⟩ (.int .i64 ((rd_T35 l0_4 x8_1).f2)))) := ⟨by repeat (first | (with_reducible first | exact HB.out | apply below_alloc | apply pw_below_drewN | apply below_drew1 | refine below_set ?_ GE1034.out | refine below_set ?_ GE1036.out) | exact HB.out)⟩
                (try clear BK1034)
                (try clear BK1036)
                (try clear HB)
                generalize (((w21.setCell ⟨gb1036, 0, none⟩ (.string ((rd_T35 l0_4 x8_1).f0))).setCell ⟨gb1036, 1, none⟩ (.int .i64 ((rd_T35 l0_4 x8_1).f1))).setCell ⟨gb1036, 2, none⟩ (.int .i64 ((rd_T35 l0_4 x8_1).f2))) = w24 at n0_ n1_ n2_ ⊢
                have BK1034 := n0_
                have BK1036 := n1_
                have HB := n2_
                clear n0_ n1_ n2_
                have n0_ := Aside0.mk (blk_drew BK1034.out)
                have n1_ := Aside0.mk (blk_drew BK1036.out)
                have n2_ := Aside0.mk (below_drew1 HB.out)
                clear BK1034
                clear BK1036
                clear HB
                have BK1034 := n0_
                have BK1036 := n1_
                have HB := n2_
                clear n0_ n1_ n2_
                refine start_ (n := 19) (S := fun w' => w'.cell? ⟨gb1036, 0, none⟩ = some (.string ((rd_T35 l0_4 x8_1).f0)) ∧ w'.cell? ⟨gb1036, 1, none⟩ = some (.int .i64 ((rd_T35 l0_4 x8_1).f1)) ∧ w'.cell? ⟨gb1036, 2, none⟩ = some (.int .i64 ((rd_T35 l0_4 x8_1).f2))) (ds := []) #[false, false, false, false, false, false, false, false, false, false, false, false, false, false, false, false, false, false, false] (by kernel_rfl) rfl rfl ⟨(blk_cell BK1036.out 0).trans rfl, (blk_cell BK1036.out 1).trans rfl, (blk_cell BK1036.out 2).trans rfl⟩ (fun hHeld => ?_); refine with_tabW impl_OrderOk.tab4 impl_OrderOk.bits4 (fun HT_ HW_ => ?_)
                generalize w24.drew = w25 at BK1034 BK1036 HB hHeld ⊢
                refine take_ (i := 0) (N := some 13) (v := ?_) (a' := ?_) (bs_ 19 1) rfl rfl (take_ofW HT_.out HW_.out (by kernel_rfl)) (fun _ _ _ h => h) (Or.inl ⟨by rfl, ?_⟩) hHeld ?_ ?_
                rotate_left
                · rintro w' ⟨s0, s1, s2⟩
                  go_simp
                  (first | with_reducible rfl | rfl)
                rotate_left
                · simp only [Act.put, List.setIfInBounds_toArray, List.set_cons_zero, List.set_cons_succ, i64_w, i32_w]
                  rfl
                refine one_ (i := 1) (N := some 14) (bs_ 19 3) rfl rfl (one_of HT_.out (by kernel_rfl)) (by decide) (fun K hK => ?_)
                refine goes_ Try.func32 (by kernel_rfl) rfl #[.agg #[.string ((rd_T35 l0_4 x8_1).f0), .int .i64 ((rd_T35 l0_4 x8_1).f1), .int .i64 ((rd_T35 l0_4 x8_1).f2)]] (by rfl) rfl rfl (by (try simp only [List.map_toArray, List.map_cons, List.map_nil]); first | done | rfl | (simp only [List.length_drop, List.length_take]; rfl)) ?_
                with_reducible refine (impl_MetricOk.calls k1 ((rd_T35 l0_4 x8_1).f0) ((rd_T35 l0_4 x8_1).f1) ((rd_T35 l0_4 x8_1).f2) true _ A7.out).mono ?_
                rintro e w26 ⟨rfl, hb⟩
                refine ⟨_, rfl, ?_⟩
                have n0_ := Aside0.mk (blk_below (g := gb1034) (o := .cells #[.string a0_0, .string a0_1, .int .i64 a0_2, .int .i64 a0_3, .slice (some ad1035) l0_4.length c0_4, .int .i64 a0_5, .int .i64 a0_6, .int .i64 a0_7, .int .i64 a0_8, .slice A0_9 l0_9.length c0_9] 65 (0, 0)) (by (with_reducible repeat (first | refine blk_drewN ?_ _ | refine blk_drew ?_ | refine blk_alloc ?_ _)); exact BK1034.out) hb)
                have n1_ := Aside0.mk (blk_below (g := gb1036) (o := .cells #[.string ((rd_T35 l0_4 x8_1).f0), .int .i64 ((rd_T35 l0_4 x8_1).f1), .int .i64 ((rd_T35 l0_4 x8_1).f2)] 35 (0, 0)) (by (with_reducible repeat (first | refine blk_drewN ?_ _ | refine blk_drew ?_ | refine blk_alloc ?_ _)); exact BK1036.out) hb)
                have n2_ := Aside0.mk (below_step (by repeat (first | (with_reducible first | exact HB.out | apply below_alloc | apply pw_below_drewN | apply below_drew1 | refine below_set ?_ GE1034.out | refine below_set ?_ GE1036.out) | exact HB.out)) hb)
                clear BK1034
                clear BK1036
                clear HB
                have BK1034 := n0_
                have BK1036 := n1_
                have HB := n2_
                clear n0_ n1_ n2_
                (try clear hb)
                (try clear hb2)
                (try clear hk)
                (try clear hi)
                refine hK.out _ _ ⟨(blk_cell BK1036.out 0).trans rfl, (blk_cell BK1036.out 1).trans rfl, (blk_cell BK1036.out 2).trans rfl⟩ (fun hHeld => ?_)
                clear hK K
                refine norm_ (a' := ?_) ?_ ?_
                rotate_left
                · show Act.put _ (some 14) _ = _
                  simp only [Act.put, List.setIfInBounds_toArray, List.set_cons_zero, List.set_cons_succ, i64_w, i32_w]
                  rfl
                refine pure_ (i := 2) (N := some 15) (v := _) (a' := _) (bs_ 19 7) rfl rfl (any_of HT_.out (by kernel_rfl)) (fun _ _ _ h => h) (Or.inl ⟨by rfl, by intro w'; go_simp; first | with_reducible rfl | rfl⟩) (by simp only [Act.put, List.setIfInBounds_toArray, List.set_cons_zero, List.set_cons_succ, i64_w, i32_w]; rfl) ?_
                refine pure_ (i := 3) (N := some 16) (v := _) (a' := _) (bs_ 19 15) rfl rfl (any_of HT_.out (by kernel_rfl)) (fun _ _ _ h => h) (Or.inl ⟨by rfl, by intro w'; go_simp; first | with_reducible rfl | rfl⟩) (by simp only [Act.put, List.setIfInBounds_toArray, List.set_cons_zero, List.set_cons_succ, i64_w, i32_w]; rfl) ?_
                refine pure_ (i := 4) (N := some 17) (v := _) (a' := _) (bs_ 19 31) rfl rfl (any_of HT_.out (by kernel_rfl)) (fun _ _ _ h => h) (Or.inl ⟨by rfl, by intro w'; go_simp; first | with_reducible rfl | rfl⟩) (by simp only [Act.put, List.setIfInBounds_toArray, List.set_cons_zero, List.set_cons_succ, i64_w, i32_w]; rfl) ?_
                refine pure_ (i := 5) (N := some 18) (v := _) (a' := _) (bs_ 19 63) rfl rfl (any_of HT_.out (by kernel_rfl)) (fun _ _ _ h => h) (Or.inl ⟨by rfl, by intro w'; go_simp; first | with_reducible rfl | rfl⟩) (by simp only [Act.put, List.setIfInBounds_toArray, List.set_cons_zero, List.set_cons_succ, i64_w, i32_w]; rfl) ?_
                refine pure_ (i := 6) (N := some 19) (v := _) (a' := _) (bs_ 19 127) rfl rfl (any_of HT_.out (by kernel_rfl)) (fun _ _ _ h => h) (Or.inl ⟨by rfl, by intro w'; go_simp; first | with_reducible rfl | rfl⟩) (by simp only [Act.put, List.setIfInBounds_toArray, List.set_cons_zero, List.set_cons_succ, i64_w, i32_w]; rfl) ?_
                refine pure_ (i := 7) (N := some 20) (v := undef) (a' := ?_) (bs_ 19 255) rfl rfl (any_of HT_.out (by kernel_rfl)) (fun _ _ _ h => h) (Or.inr ⟨by rfl, rfl⟩) ?_ ?_
                rotate_left
                · simp only [Act.put, List.setIfInBounds_toArray, List.set_cons_zero, List.set_cons_succ, i64_w, i32_w]
                  rfl
                refine pure_ (i := 8) (N := some 21) (v := undef) (a' := ?_) (bs_ 19 511) rfl rfl (any_of HT_.out (by kernel_rfl)) (fun _ _ _ h => h) (Or.inr ⟨by rfl, rfl⟩) ?_ ?_
                rotate_left
                · simp only [Act.put, List.setIfInBounds_toArray, List.set_cons_zero, List.set_cons_succ, i64_w, i32_w]
                  rfl
                refine pure_ (i := 9) (N := some 22) (v := undef) (a' := ?_) (bs_ 19 1023) rfl rfl (any_of HT_.out (by kernel_rfl)) (fun _ _ _ h => h) (Or.inr ⟨by rfl, rfl⟩) ?_ ?_
                rotate_left
                · simp only [Act.put, List.setIfInBounds_toArray, List.set_cons_zero, List.set_cons_succ, i64_w, i32_w]
                  rfl
                refine pure_ (i := 10) (N := some 23) (v := undef) (a' := ?_) (bs_ 19 2047) rfl rfl (any_of HT_.out (by kernel_rfl)) (fun _ _ _ h => h) (Or.inr ⟨by rfl, rfl⟩) ?_ ?_
                rotate_left
                · simp only [Act.put, List.setIfInBounds_toArray, List.set_cons_zero, List.set_cons_succ, i64_w, i32_w]
                  rfl
                refine pure_ (i := 11) (N := some 24) (v := undef) (a' := ?_) (bs_ 19 4095) rfl rfl (any_of HT_.out (by kernel_rfl)) (fun _ _ _ h => h) (Or.inr ⟨by rfl, rfl⟩) ?_ ?_
                rotate_left
                · simp only [Act.put, List.setIfInBounds_toArray, List.set_cons_zero, List.set_cons_succ, i64_w, i32_w]
                  rfl
                refine pure_ (i := 12) (N := some 25) (v := undef) (a' := ?_) (bs_ 19 8191) rfl rfl (any_of HT_.out (by kernel_rfl)) (fun _ _ _ h => h) (Or.inr ⟨by rfl, rfl⟩) ?_ ?_
                rotate_left
                · simp only [Act.put, List.setIfInBounds_toArray, List.set_cons_zero, List.set_cons_succ, i64_w, i32_w]
                  rfl
                refine pure_ (i := 13) (N := some 26) (v := undef) (a' := ?_) (bs_ 19 16383) rfl rfl (any_of HT_.out (by kernel_rfl)) (fun _ _ _ h => h) (Or.inr ⟨by rfl, rfl⟩) ?_ ?_
                rotate_left
                · simp only [Act.put, List.setIfInBounds_toArray, List.set_cons_zero, List.set_cons_succ, i64_w, i32_w]
                  rfl
                refine pure_ (i := 14) (N := some 27) (v := undef) (a' := ?_) (bs_ 19 32767) rfl rfl (any_of HT_.out (by kernel_rfl)) (fun _ _ _ h => h) (Or.inr ⟨by rfl, rfl⟩) ?_ ?_
                rotate_left
                · simp only [Act.put, List.setIfInBounds_toArray, List.set_cons_zero, List.set_cons_succ, i64_w, i32_w]
                  rfl
                refine pure_ (i := 15) (N := some 28) (v := undef) (a' := ?_) (bs_ 19 65535) rfl rfl (any_of HT_.out (by kernel_rfl)) (fun _ _ _ h => h) (Or.inr ⟨by rfl, rfl⟩) ?_ ?_
                rotate_left
                · simp only [Act.put, List.setIfInBounds_toArray, List.set_cons_zero, List.set_cons_succ, i64_w, i32_w]
                  rfl
                refine pure_ (i := 16) (N := some 29) (v := undef) (a' := ?_) (bs_ 19 131071) rfl rfl (any_of HT_.out (by kernel_rfl)) (fun _ _ _ h => h) (Or.inr ⟨by rfl, rfl⟩) ?_ ?_
                rotate_left
                · simp only [Act.put, List.setIfInBounds_toArray, List.set_cons_zero, List.set_cons_succ, i64_w, i32_w]
                  rfl
                refine pure_ (i := 17) (N := some 30) (v := _) (a' := _) (bs_ 19 262143) rfl rfl (any_of HT_.out (by kernel_rfl)) (fun _ _ _ h => h) (Or.inl ⟨by rfl, by intro w'; go_simp; first | with_reducible rfl | rfl⟩) (by simp only [Act.put, List.setIfInBounds_toArray, List.set_cons_zero, List.set_cons_succ, i64_w, i32_w]; rfl) ?_
                refine pure_ (i := 18) (N := some 31) (v := _) (a' := _) (bs_ 19 524287) rfl rfl (any_of HT_.out (by kernel_rfl)) (fun _ _ _ h => h) (Or.inl ⟨by rfl, by intro w'; go_simp; first | with_reducible rfl | rfl⟩) (by simp only [Act.put, List.setIfInBounds_toArray, List.set_cons_zero, List.set_cons_succ, i64_w, i32_w]; rfl) ?_
                refine done_ (done_of HT_.out (by kernel_rfl)) ?_
                try go_wp2
                go_roundg k1
                case measure => have := HK1.out; omega
                case rel => exact ⟨(wrap64 (x8_1 + 1)), (by first | rfl | (simp; done) | (simp [*]; done)), H', ⟨by have := HK1.out; omega⟩, ⟨by (with_reducible repeat (first | refine blk_drewN ?_ _ | refine blk_drew ?_ | refine blk_alloc ?_ _)); exact BK1034.out⟩, ⟨by repeat (first | (with_reducible first | exact HB.out | apply below_alloc | apply pw_below_drewN | apply below_drew1 | refine below_set ?_ GE1034.out | refine below_set ?_ GE1036.out) | exact HB.out)⟩⟩
            · replace c8 := Bool.eq_false_iff.mpr c8
              subst c8
              have H1 : (some false) = some r := by rw [if_neg (show ¬ (false = true) by decide)] at H; exact H
              clear H
              have H := H1
              clear H1
              obtain rfl := Option.some.inj H
              have p1035 : 0 ≤ (x8_1 : Int) := of_decide_eq_true (by first | (with_reducible assumption) | assumption)
              have q1035 : x8_1 < (l0_4.length : Int) := of_decide_eq_true (by first | (with_reducible assumption) | assumption)
              obtain ⟨ad1035, e1035, hx1035_0, hx1035_1, hx1035_2⟩ := at_T35 HR0_4.out x8_1 p1035 q1035
              cases e1035
              replace hx1035_0 := (HB.out.cell (World.block_lt_of_cell? w _ hx1035_0)).trans hx1035_0
              replace hx1035_1 := (HB.out.cell (World.block_lt_of_cell? w _ hx1035_1)).trans hx1035_1
              replace hx1035_2 := (HB.out.cell (World.block_lt_of_cell? w _ hx1035_2)).trans hx1035_2
              replace p1035 := eq_true p1035
              replace q1035 := eq_true q1035
              try go_wp2_with (first | ((with_reducible refine gate_dst (N := 4) rfl ?_); (try (refine gate_guard (by rfl) ?_; dsimp only)); refine box_event ?hg (N := 4) ?hd (cs := #[.string (⟨#[]⟩ : ByteArray), .int .i64 0, .int .i64 0]) (t := 35) ?hr ?_; (case hd => rfl); (case hg => rfl); (case hr => first | (go_simp; done) | (go_simp; rfl)); intro gb1036 hg w27 hbox hb; have n0_ := Aside0.mk (blk_below (g := gb1034) (o := .cells #[.string a0_0, .string a0_1, .int .i64 a0_2, .int .i64 a0_3, .slice (some ad1035) l0_4.length c0_4, .int .i64 a0_5, .int .i64 a0_6, .int .i64 a0_7, .int .i64 a0_8, .slice A0_9 l0_9.length c0_9] 65 (0, 0)) (by (with_reducible repeat (first | refine blk_drewN ?_ _ | refine blk_drew ?_ | refine blk_alloc ?_ _)); exact BK1034.out) hb); have n1_ := Aside0.mk (below_step (by repeat (first | (with_reducible first | exact HB.out | apply below_alloc | apply pw_below_drewN | apply below_drew1 | refine below_set ?_ GE1034.out) | exact HB.out)) hb); have n2_ := Aside0.mk (hbox); have n3_ := Aside0.mk ((by rw [hg]; exact (below_size (by repeat (first | (with_reducible first | exact HB.out | apply below_alloc | apply pw_below_drewN | apply below_drew1 | refine below_set ?_ GE1034.out) | exact HB.out))) : w.heap.size ≤ gb1036)); have n4_ := Aside0.mk ((by rw [hg]; exact (below_size (by repeat (first | (with_reducible first | exact HB.out | apply below_alloc | apply pw_below_drewN | apply below_drew1 | refine below_set ?_ GE1034.out) | exact HB.out))) : w.heap.size ≤ gb1036)); have n5_ := Aside0.mk ((by rw [hg]; exact Nat.ne_of_lt (blk_lt (g := gb1034) (o := .cells #[.string a0_0, .string a0_1, .int .i64 a0_2, .int .i64 a0_3, .slice (some ad1035) l0_4.length c0_4, .int .i64 a0_5, .int .i64 a0_6, .int .i64 a0_7, .int .i64 a0_8, .slice A0_9 l0_9.length c0_9] 65 (0, 0)) (by (with_reducible repeat (first | refine blk_drewN ?_ _ | refine blk_drew ?_ | refine blk_alloc ?_ _)); exact BK1034.out)) : gb1034 ≠ gb1036)); have n6_ := Aside0.mk ((by rw [hg]; exact Nat.ne_of_gt (blk_lt (g := gb1034) (o := .cells #[.string a0_0, .string a0_1, .int .i64 a0_2, .int .i64 a0_3, .slice (some ad1035) l0_4.length c0_4, .int .i64 a0_5, .int .i64 a0_6, .int .i64 a0_7, .int .i64 a0_8, .slice A0_9 l0_9.length c0_9] 65 (0, 0)) (by (with_reducible repeat (first | refine blk_drewN ?_ _ | refine blk_drew ?_ | refine blk_alloc ?_ _)); exact BK1034.out)) : gb1036 ≠ gb1034)); clear BK1034; clear HB; have BK1034 := n0_; have HB := n1_; have BK1036 := n2_; have GW1036 := n3_; have GE1036 := n4_; have NB1034_1036 := n5_; have NB1036_1034 := n6_; clear n0_ n1_ n2_ n3_ n4_ n5_ n6_; clear hb hbox hg; have hnb28 := NB1036_1034.out; have hnc28 := NB1034_1036.out; have hcz29_0 : w27.cell? ⟨gb1036, 0, none⟩ = some (.string (⟨#[]⟩ : ByteArray)) := (blk_cell BK1036.out 0).trans rfl; have hcz29_1 : w27.cell? ⟨gb1036, 1, none⟩ = some (.int .i64 0) := (blk_cell BK1036.out 1).trans rfl; have hcz29_2 : w27.cell? ⟨gb1036, 2, none⟩ = some (.int .i64 0) := (blk_cell BK1036.out 2).trans rfl; have hfz29_0 := blk_frozen BK1036.out 0; have hfz29_1 := blk_frozen BK1036.out 1; have hfz29_2 := blk_frozen BK1036.out 2))
              have n0_ : Aside0 ((((w27.setCell ⟨gb1036, 0, none⟩ (.string ((rd_T35 l0_4 x8_1).f0))).setCell ⟨gb1036, 1, none⟩ (.int .i64 ((rd_T35 l0_4 x8_1).f1))).setCell ⟨gb1036, 2, none⟩ (.int .i64 ((rd_T35 l0_4 x8_1).f2))).heap[gb1034]? = some (.cells #[.string a0_0, .string a0_1, .int .i64 a0_2, .int .i64 a0_3, .slice (some ad1035) l0_4.length c0_4, .int .i64 a0_5, .int .i64 a0_6, .int .i64 a0_7, .int .i64 a0_8, .slice A0_9 l0_9.length c0_9] 65 (0, 0))) := ⟨by (with_reducible repeat (first | refine blk_drewN ?_ _ | refine blk_drew ?_ | refine blk_alloc ?_ _)); refine blk_far ?_ NB1034_1036.out _; (with_reducible repeat (first | refine blk_drewN ?_ _ | refine blk_drew ?_ | refine blk_alloc ?_ _)); refine blk_far ?_ NB1034_1036.out _; (with_reducible repeat (first | refine blk_drewN ?_ _ | refine blk_drew ?_ | refine blk_alloc ?_ _)); refine blk_far ?_ NB1034_1036.out _; (with_reducible repeat (first | refine blk_drewN ?_ _ | refine blk_drew ?_ | refine blk_alloc ?_ _)); exact BK1034.out⟩
              have n1_ : Aside0 ((((w27.setCell ⟨gb1036, 0, none⟩ (.string ((rd_T35 l0_4 x8_1).f0))).setCell ⟨gb1036, 1, none⟩ (.int .i64 ((rd_T35 l0_4 x8_1).f1))).setCell ⟨gb1036, 2, none⟩ (.int .i64 ((rd_T35 l0_4 x8_1).f2))).heap[gb1036]? = some (.cells #[.string ((rd_T35 l0_4 x8_1).f0), .int .i64 ((rd_T35 l0_4 x8_1).f1), .int .i64 ((rd_T35 l0_4 x8_1).f2)] 35 (0, 0))) := ⟨by (with_reducible repeat (first | refine blk_drewN ?_ _ | refine blk_drew ?_ | refine blk_alloc ?_ _)); refine blk_put (cs := #[.string ((rd_T35 l0_4 x8_1).f0), .int .i64 ((rd_T35 l0_4 x8_1).f1), .int .i64 0]) ?_ 2 _ rfl; (with_reducible repeat (first | refine blk_drewN ?_ _ | refine blk_drew ?_ | refine blk_alloc ?_ _)); refine blk_put (cs := #[.string ((rd_T35 l0_4 x8_1).f0), .int .i64 0, .int .i64 0]) ?_ 1 _ rfl; (with_reducible repeat (first | refine blk_drewN ?_ _ | refine blk_drew ?_ | refine blk_alloc ?_ _)); refine blk_put (cs := #[.string (⟨#[]⟩ : ByteArray), .int .i64 0, .int .i64 0]) ?_ 0 _ rfl; (with_reducible repeat (first | refine blk_drewN ?_ _ | refine blk_drew ?_ | refine blk_alloc ?_ _)); exact BK1036.out⟩
              have n2_ : Aside0 (Below w.heap.size w (((w27.setCell ⟨gb1036, 0, none⟩ (.string ((rd_T35 l0_4 x8_1).f0))).setCell ⟨gb1036, 1, none⟩ (.int .i64 ((rd_T35 l0_4 x8_1).f1))).setCell ⟨gb1036, 2, none⟩ (.int .i64 ((rd_T35 l0_4 x8_1).f2)))) := ⟨by repeat (first | (with_reducible first | exact HB.out | apply below_alloc | apply pw_below_drewN | apply below_drew1 | refine below_set ?_ GE1034.out | refine below_set ?_ GE1036.out) | exact HB.out)⟩
              (try clear BK1034)
              (try clear BK1036)
              (try clear HB)
              generalize (((w27.setCell ⟨gb1036, 0, none⟩ (.string ((rd_T35 l0_4 x8_1).f0))).setCell ⟨gb1036, 1, none⟩ (.int .i64 ((rd_T35 l0_4 x8_1).f1))).setCell ⟨gb1036, 2, none⟩ (.int .i64 ((rd_T35 l0_4 x8_1).f2))) = w30 at n0_ n1_ n2_ ⊢
              have BK1034 := n0_
              have BK1036 := n1_
              have HB := n2_
              clear n0_ n1_ n2_
              have n0_ := Aside0.mk (blk_drew BK1034.out)
              have n1_ := Aside0.mk (blk_drew BK1036.out)
              have n2_ := Aside0.mk (below_drew1 HB.out)
              clear BK1034
              clear BK1036
              clear HB
              have BK1034 := n0_
              have BK1036 := n1_
              have HB := n2_
              clear n0_ n1_ n2_
              refine start_ (n := 19) (S := fun w' => w'.cell? ⟨gb1036, 0, none⟩ = some (.string ((rd_T35 l0_4 x8_1).f0)) ∧ w'.cell? ⟨gb1036, 1, none⟩ = some (.int .i64 ((rd_T35 l0_4 x8_1).f1)) ∧ w'.cell? ⟨gb1036, 2, none⟩ = some (.int .i64 ((rd_T35 l0_4 x8_1).f2))) (ds := []) #[false, false, false, false, false, false, false, false, false, false, false, false, false, false, false, false, false, false, false] (by kernel_rfl) rfl rfl ⟨(blk_cell BK1036.out 0).trans rfl, (blk_cell BK1036.out 1).trans rfl, (blk_cell BK1036.out 2).trans rfl⟩ (fun hHeld => ?_); refine with_tabW impl_OrderOk.tab4 impl_OrderOk.bits4 (fun HT_ HW_ => ?_)
              generalize w30.drew = w31 at BK1034 BK1036 HB hHeld ⊢
              refine take_ (i := 0) (N := some 13) (v := ?_) (a' := ?_) (bs_ 19 1) rfl rfl (take_ofW HT_.out HW_.out (by kernel_rfl)) (fun _ _ _ h => h) (Or.inl ⟨by rfl, ?_⟩) hHeld ?_ ?_
              rotate_left
              · rintro w' ⟨s0, s1, s2⟩
                go_simp
                (first | with_reducible rfl | rfl)
              rotate_left
              · simp only [Act.put, List.setIfInBounds_toArray, List.set_cons_zero, List.set_cons_succ, i64_w, i32_w]
                rfl
              refine one_ (i := 1) (N := some 14) (bs_ 19 3) rfl rfl (one_of HT_.out (by kernel_rfl)) (by decide) (fun K hK => ?_)
              refine goes_ Try.func32 (by kernel_rfl) rfl #[.agg #[.string ((rd_T35 l0_4 x8_1).f0), .int .i64 ((rd_T35 l0_4 x8_1).f1), .int .i64 ((rd_T35 l0_4 x8_1).f2)]] (by rfl) rfl rfl (by (try simp only [List.map_toArray, List.map_cons, List.map_nil]); first | done | rfl | (simp only [List.length_drop, List.length_take]; rfl)) ?_
              with_reducible refine (impl_MetricOk.calls k1 ((rd_T35 l0_4 x8_1).f0) ((rd_T35 l0_4 x8_1).f1) ((rd_T35 l0_4 x8_1).f2) false _ A7.out).mono ?_
              rintro e w32 ⟨rfl, hb⟩
              refine ⟨_, rfl, ?_⟩
              have n0_ := Aside0.mk (blk_below (g := gb1034) (o := .cells #[.string a0_0, .string a0_1, .int .i64 a0_2, .int .i64 a0_3, .slice (some ad1035) l0_4.length c0_4, .int .i64 a0_5, .int .i64 a0_6, .int .i64 a0_7, .int .i64 a0_8, .slice A0_9 l0_9.length c0_9] 65 (0, 0)) (by (with_reducible repeat (first | refine blk_drewN ?_ _ | refine blk_drew ?_ | refine blk_alloc ?_ _)); exact BK1034.out) hb)
              have n1_ := Aside0.mk (blk_below (g := gb1036) (o := .cells #[.string ((rd_T35 l0_4 x8_1).f0), .int .i64 ((rd_T35 l0_4 x8_1).f1), .int .i64 ((rd_T35 l0_4 x8_1).f2)] 35 (0, 0)) (by (with_reducible repeat (first | refine blk_drewN ?_ _ | refine blk_drew ?_ | refine blk_alloc ?_ _)); exact BK1036.out) hb)
              have n2_ := Aside0.mk (below_step (by repeat (first | (with_reducible first | exact HB.out | apply below_alloc | apply pw_below_drewN | apply below_drew1 | refine below_set ?_ GE1034.out | refine below_set ?_ GE1036.out) | exact HB.out)) hb)
              clear BK1034
              clear BK1036
              clear HB
              have BK1034 := n0_
              have BK1036 := n1_
              have HB := n2_
              clear n0_ n1_ n2_
              (try clear hb)
              (try clear hb2)
              (try clear hk)
              (try clear hi)
              refine hK.out _ _ ⟨(blk_cell BK1036.out 0).trans rfl, (blk_cell BK1036.out 1).trans rfl, (blk_cell BK1036.out 2).trans rfl⟩ (fun hHeld => ?_)
              clear hK K
              refine norm_ (a' := ?_) ?_ ?_
              rotate_left
              · show Act.put _ (some 14) _ = _
                simp only [Act.put, List.setIfInBounds_toArray, List.set_cons_zero, List.set_cons_succ, i64_w, i32_w]
                rfl
              refine pure_ (i := 2) (N := some 15) (v := _) (a' := _) (bs_ 19 7) rfl rfl (any_of HT_.out (by kernel_rfl)) (fun _ _ _ h => h) (Or.inl ⟨by rfl, by intro w'; go_simp; first | with_reducible rfl | rfl⟩) (by simp only [Act.put, List.setIfInBounds_toArray, List.set_cons_zero, List.set_cons_succ, i64_w, i32_w]; rfl) ?_
              refine pure_ (i := 3) (N := some 16) (v := _) (a' := _) (bs_ 19 15) rfl rfl (any_of HT_.out (by kernel_rfl)) (fun _ _ _ h => h) (Or.inl ⟨by rfl, by intro w'; go_simp; first | with_reducible rfl | rfl⟩) (by simp only [Act.put, List.setIfInBounds_toArray, List.set_cons_zero, List.set_cons_succ, i64_w, i32_w]; rfl) ?_
              refine pure_ (i := 4) (N := some 17) (v := undef) (a' := ?_) (bs_ 19 31) rfl rfl (any_of HT_.out (by kernel_rfl)) (fun _ _ _ h => h) (Or.inr ⟨by rfl, rfl⟩) ?_ ?_
              rotate_left
              · simp only [Act.put, List.setIfInBounds_toArray, List.set_cons_zero, List.set_cons_succ, i64_w, i32_w]
                rfl
              refine pure_ (i := 5) (N := some 18) (v := undef) (a' := ?_) (bs_ 19 63) rfl rfl (any_of HT_.out (by kernel_rfl)) (fun _ _ _ h => h) (Or.inr ⟨by rfl, rfl⟩) ?_ ?_
              rotate_left
              · simp only [Act.put, List.setIfInBounds_toArray, List.set_cons_zero, List.set_cons_succ, i64_w, i32_w]
                rfl
              refine pure_ (i := 6) (N := some 19) (v := undef) (a' := ?_) (bs_ 19 127) rfl rfl (any_of HT_.out (by kernel_rfl)) (fun _ _ _ h => h) (Or.inr ⟨by rfl, rfl⟩) ?_ ?_
              rotate_left
              · simp only [Act.put, List.setIfInBounds_toArray, List.set_cons_zero, List.set_cons_succ, i64_w, i32_w]
                rfl
              refine pure_ (i := 7) (N := some 20) (v := undef) (a' := ?_) (bs_ 19 255) rfl rfl (any_of HT_.out (by kernel_rfl)) (fun _ _ _ h => h) (Or.inr ⟨by rfl, rfl⟩) ?_ ?_
              rotate_left
              · simp only [Act.put, List.setIfInBounds_toArray, List.set_cons_zero, List.set_cons_succ, i64_w, i32_w]
                rfl
              refine pure_ (i := 8) (N := some 21) (v := undef) (a' := ?_) (bs_ 19 511) rfl rfl (any_of HT_.out (by kernel_rfl)) (fun _ _ _ h => h) (Or.inr ⟨by rfl, rfl⟩) ?_ ?_
              rotate_left
              · simp only [Act.put, List.setIfInBounds_toArray, List.set_cons_zero, List.set_cons_succ, i64_w, i32_w]
                rfl
              refine pure_ (i := 9) (N := some 22) (v := undef) (a' := ?_) (bs_ 19 1023) rfl rfl (any_of HT_.out (by kernel_rfl)) (fun _ _ _ h => h) (Or.inr ⟨by rfl, rfl⟩) ?_ ?_
              rotate_left
              · simp only [Act.put, List.setIfInBounds_toArray, List.set_cons_zero, List.set_cons_succ, i64_w, i32_w]
                rfl
              refine pure_ (i := 10) (N := some 23) (v := undef) (a' := ?_) (bs_ 19 2047) rfl rfl (any_of HT_.out (by kernel_rfl)) (fun _ _ _ h => h) (Or.inr ⟨by rfl, rfl⟩) ?_ ?_
              rotate_left
              · simp only [Act.put, List.setIfInBounds_toArray, List.set_cons_zero, List.set_cons_succ, i64_w, i32_w]
                rfl
              refine pure_ (i := 11) (N := some 24) (v := undef) (a' := ?_) (bs_ 19 4095) rfl rfl (any_of HT_.out (by kernel_rfl)) (fun _ _ _ h => h) (Or.inr ⟨by rfl, rfl⟩) ?_ ?_
              rotate_left
              · simp only [Act.put, List.setIfInBounds_toArray, List.set_cons_zero, List.set_cons_succ, i64_w, i32_w]
                rfl
              refine pure_ (i := 12) (N := some 25) (v := undef) (a' := ?_) (bs_ 19 8191) rfl rfl (any_of HT_.out (by kernel_rfl)) (fun _ _ _ h => h) (Or.inr ⟨by rfl, rfl⟩) ?_ ?_
              rotate_left
              · simp only [Act.put, List.setIfInBounds_toArray, List.set_cons_zero, List.set_cons_succ, i64_w, i32_w]
                rfl
              refine pure_ (i := 13) (N := some 26) (v := undef) (a' := ?_) (bs_ 19 16383) rfl rfl (any_of HT_.out (by kernel_rfl)) (fun _ _ _ h => h) (Or.inr ⟨by rfl, rfl⟩) ?_ ?_
              rotate_left
              · simp only [Act.put, List.setIfInBounds_toArray, List.set_cons_zero, List.set_cons_succ, i64_w, i32_w]
                rfl
              refine pure_ (i := 14) (N := some 27) (v := undef) (a' := ?_) (bs_ 19 32767) rfl rfl (any_of HT_.out (by kernel_rfl)) (fun _ _ _ h => h) (Or.inr ⟨by rfl, rfl⟩) ?_ ?_
              rotate_left
              · simp only [Act.put, List.setIfInBounds_toArray, List.set_cons_zero, List.set_cons_succ, i64_w, i32_w]
                rfl
              refine pure_ (i := 15) (N := some 28) (v := undef) (a' := ?_) (bs_ 19 65535) rfl rfl (any_of HT_.out (by kernel_rfl)) (fun _ _ _ h => h) (Or.inr ⟨by rfl, rfl⟩) ?_ ?_
              rotate_left
              · simp only [Act.put, List.setIfInBounds_toArray, List.set_cons_zero, List.set_cons_succ, i64_w, i32_w]
                rfl
              refine pure_ (i := 16) (N := some 29) (v := undef) (a' := ?_) (bs_ 19 131071) rfl rfl (any_of HT_.out (by kernel_rfl)) (fun _ _ _ h => h) (Or.inr ⟨by rfl, rfl⟩) ?_ ?_
              rotate_left
              · simp only [Act.put, List.setIfInBounds_toArray, List.set_cons_zero, List.set_cons_succ, i64_w, i32_w]
                rfl
              refine pure_ (i := 17) (N := some 30) (v := undef) (a' := ?_) (bs_ 19 262143) rfl rfl (any_of HT_.out (by kernel_rfl)) (fun _ _ _ h => h) (Or.inr ⟨by rfl, rfl⟩) ?_ ?_
              rotate_left
              · simp only [Act.put, List.setIfInBounds_toArray, List.set_cons_zero, List.set_cons_succ, i64_w, i32_w]
                rfl
              refine pure_ (i := 18) (N := some 31) (v := _) (a' := _) (bs_ 19 524287) rfl rfl (any_of HT_.out (by kernel_rfl)) (fun _ _ _ h => h) (Or.inl ⟨by rfl, by intro w'; go_simp; first | with_reducible rfl | rfl⟩) (by simp only [Act.put, List.setIfInBounds_toArray, List.set_cons_zero, List.set_cons_succ, i64_w, i32_w]; rfl) ?_
              refine done_ (done_of HT_.out (by kernel_rfl)) ?_
              try go_wp2
              go_ret
              exact ⟨by first | rfl | (simp [errW_none, errW_some] <;> rfl) | (simp [*, errW_none, errW_some] <;> rfl), by repeat (first | (with_reducible first | exact HB.out | apply below_alloc | apply pw_below_drewN | apply below_drew1 | refine below_set ?_ GE1034.out | refine below_set ?_ GE1036.out) | exact HB.out)⟩
          · rw [if_neg c6] at H
            exact absurd H (by simp)
        · rw [if_neg c5] at H
          exact absurd H (by simp)
      · rw [if_neg c4] at H
        have c4b0 : decide (x8_1 < (l0_4.length : Int)) = false := decide_eq_false c4
        clear c4
        replace H := Option.bind_eq_some_iff.mp H
        obtain ⟨t1039, A330, H⟩ := H
        replace H : (if t1039 = true then ((impl_NameOk.f k1 a0_1).bind fun t1040 => (if t1040 = true then ((impl_from.f a0_2 1 a0_3).bind fun t1041 => (if t1041 = true then (if a0_3 ≤ 1000 then (if (l0_4.length : Int) ≤ 4 then ((impl_PaceOk.f a0_5 a0_6 a0_7 a0_8).bind fun t1042 => (if t1042 = true then ((impl_notesOk.f k1 l0_9).bind fun t1043 => (some t1043)) else (some false))) else (some false)) else (some false)) else (some false))) else (some false))) else (some false)) = some r := H
        have A33 := Aside0.mk A330
        clear A330
        by_cases c34 : t1039 = true
        · subst c34
          have H1 : ((impl_NameOk.f k1 a0_1).bind fun t1040 => (if t1040 = true then ((impl_from.f a0_2 1 a0_3).bind fun t1041 => (if t1041 = true then (if a0_3 ≤ 1000 then (if (l0_4.length : Int) ≤ 4 then ((impl_PaceOk.f a0_5 a0_6 a0_7 a0_8).bind fun t1042 => (if t1042 = true then ((impl_notesOk.f k1 l0_9).bind fun t1043 => (some t1043)) else (some false))) else (some false)) else (some false)) else (some false))) else (some false))) = some r := by rw [if_pos rfl] at H; exact H
          clear H
          have H := H1
          clear H1
          replace H := Option.bind_eq_some_iff.mp H
          obtain ⟨t1040, A350, H⟩ := H
          replace H : (if t1040 = true then ((impl_from.f a0_2 1 a0_3).bind fun t1041 => (if t1041 = true then (if a0_3 ≤ 1000 then (if (l0_4.length : Int) ≤ 4 then ((impl_PaceOk.f a0_5 a0_6 a0_7 a0_8).bind fun t1042 => (if t1042 = true then ((impl_notesOk.f k1 l0_9).bind fun t1043 => (some t1043)) else (some false))) else (some false)) else (some false)) else (some false))) else (some false)) = some r := H
          have A35 := Aside0.mk A350
          clear A350
          by_cases c36 : t1040 = true
          · subst c36
            have H1 : ((impl_from.f a0_2 1 a0_3).bind fun t1041 => (if t1041 = true then (if a0_3 ≤ 1000 then (if (l0_4.length : Int) ≤ 4 then ((impl_PaceOk.f a0_5 a0_6 a0_7 a0_8).bind fun t1042 => (if t1042 = true then ((impl_notesOk.f k1 l0_9).bind fun t1043 => (some t1043)) else (some false))) else (some false)) else (some false)) else (some false))) = some r := by rw [if_pos rfl] at H; exact H
            clear H
            have H := H1
            clear H1
            replace H := Option.bind_eq_some_iff.mp H
            obtain ⟨t1041, A370, H⟩ := H
            replace H : (if t1041 = true then (if a0_3 ≤ 1000 then (if (l0_4.length : Int) ≤ 4 then ((impl_PaceOk.f a0_5 a0_6 a0_7 a0_8).bind fun t1042 => (if t1042 = true then ((impl_notesOk.f k1 l0_9).bind fun t1043 => (some t1043)) else (some false))) else (some false)) else (some false)) else (some false)) = some r := H
            have A37 := Aside0.mk A370
            clear A370
            by_cases c38 : t1041 = true
            · subst c38
              have H1 : (if a0_3 ≤ 1000 then (if (l0_4.length : Int) ≤ 4 then ((impl_PaceOk.f a0_5 a0_6 a0_7 a0_8).bind fun t1042 => (if t1042 = true then ((impl_notesOk.f k1 l0_9).bind fun t1043 => (some t1043)) else (some false))) else (some false)) else (some false)) = some r := by rw [if_pos rfl] at H; exact H
              clear H
              have H := H1
              clear H1
              by_cases c39 : a0_3 ≤ 1000
              · rw [if_pos c39] at H
                have c39b0 : decide (a0_3 ≤ 1000) = true := decide_eq_true c39
                clear c39
                by_cases c40 : (l0_4.length : Int) ≤ 4
                · rw [if_pos c40] at H
                  have c40b0 : decide ((l0_4.length : Int) ≤ 4) = true := decide_eq_true c40
                  have c40b1 : decide (l0_4.length ≤ 4) = true := decide_eq_true (by omega)
                  clear c40
                  replace H := Option.bind_eq_some_iff.mp H
                  obtain ⟨t1042, A410, H⟩ := H
                  replace H : (if t1042 = true then ((impl_notesOk.f k1 l0_9).bind fun t1043 => (some t1043)) else (some false)) = some r := H
                  have A41 := Aside0.mk A410
                  clear A410
                  by_cases c42 : t1042 = true
                  · subst c42
                    have H1 : ((impl_notesOk.f k1 l0_9).bind fun t1043 => (some t1043)) = some r := by rw [if_pos rfl] at H; exact H
                    clear H
                    have H := H1
                    clear H1
                    replace H := Option.bind_eq_some_iff.mp H
                    obtain ⟨t1043, A430, H⟩ := H
                    replace H : (some t1043) = some r := H
                    have A43 := Aside0.mk A430
                    clear A430
                    obtain rfl := Option.some.inj H
                    have hcz44_0 : wr.cell? ⟨gb1034, 0, none⟩ = some (.string a0_0) := (blk_cell BK1034.out 0).trans rfl
                    have hcz44_1 : wr.cell? ⟨gb1034, 1, none⟩ = some (.string a0_1) := (blk_cell BK1034.out 1).trans rfl
                    have hcz44_2 : wr.cell? ⟨gb1034, 2, none⟩ = some (.int .i64 a0_2) := (blk_cell BK1034.out 2).trans rfl
                    have hcz44_3 : wr.cell? ⟨gb1034, 3, none⟩ = some (.int .i64 a0_3) := (blk_cell BK1034.out 3).trans rfl
                    have hcz44_4 : wr.cell? ⟨gb1034, 4, none⟩ = some (.slice A0_4 l0_4.length c0_4) := (blk_cell BK1034.out 4).trans rfl
                    have hcz44_5 : wr.cell? ⟨gb1034, 5, none⟩ = some (.int .i64 a0_5) := (blk_cell BK1034.out 5).trans rfl
                    have hcz44_6 : wr.cell? ⟨gb1034, 6, none⟩ = some (.int .i64 a0_6) := (blk_cell BK1034.out 6).trans rfl
                    have hcz44_7 : wr.cell? ⟨gb1034, 7, none⟩ = some (.int .i64 a0_7) := (blk_cell BK1034.out 7).trans rfl
                    have hcz44_8 : wr.cell? ⟨gb1034, 8, none⟩ = some (.int .i64 a0_8) := (blk_cell BK1034.out 8).trans rfl
                    have hcz44_9 : wr.cell? ⟨gb1034, 9, none⟩ = some (.slice A0_9 l0_9.length c0_9) := (blk_cell BK1034.out 9).trans rfl
                    have hfz44_0 := blk_frozen BK1034.out 0
                    have hfz44_1 := blk_frozen BK1034.out 1
                    have hfz44_2 := blk_frozen BK1034.out 2
                    have hfz44_3 := blk_frozen BK1034.out 3
                    have hfz44_4 := blk_frozen BK1034.out 4
                    have hfz44_5 := blk_frozen BK1034.out 5
                    have hfz44_6 := blk_frozen BK1034.out 6
                    have hfz44_7 := blk_frozen BK1034.out 7
                    have hfz44_8 := blk_frozen BK1034.out 8
                    have hfz44_9 := blk_frozen BK1034.out 9
                    go_wp2_with (first | ((with_reducible refine gate_callee (f := 24) rfl ?_); refine goesL_ (some 35) rfl rfl Try.func24 (by kernel_rfl) rfl #[.string a0_0] rfl (by (try simp only [List.map_toArray, List.map_cons, List.map_nil]); first | done | rfl | (simp only [List.length_drop, List.length_take]; rfl)) ?_; (with_reducible refine (impl_NameOk.calls k1 a0_0 true _ A33.out).mono ?_); rintro e w' ⟨rfl, ⟨nd, rfl⟩⟩; refine ⟨_, rfl, ?_⟩) | (go_at_call 24; (with_reducible refine (impl_NameOk.calls k1 a0_1 true _ A35.out).mono ?_); rintro e w' ⟨rfl, ⟨nd, rfl⟩⟩) | (go_at_call 80; (with_reducible refine (impl_from.calls a0_2 1 a0_3 true _ A37.out).mono ?_); rintro e w' ⟨rfl, ⟨nd, rfl⟩⟩) | (go_at_call 22; (with_reducible refine (impl_PaceOk.calls a0_5 a0_6 a0_7 a0_8 true _ A41.out).mono ?_); rintro e w45 ⟨rfl, hb⟩; have n0_ := Aside0.mk (blk_below (g := gb1034) (o := .cells #[.string a0_0, .string a0_1, .int .i64 a0_2, .int .i64 a0_3, .slice A0_4 l0_4.length c0_4, .int .i64 a0_5, .int .i64 a0_6, .int .i64 a0_7, .int .i64 a0_8, .slice A0_9 l0_9.length c0_9] 65 (0, 0)) (by (with_reducible repeat (first | refine blk_drewN ?_ _ | refine blk_drew ?_ | refine blk_alloc ?_ _)); exact BK1034.out) hb); have n1_ := Aside0.mk (below_step (by repeat (first | (with_reducible first | exact HB.out | apply below_alloc | apply pw_below_drewN | apply below_drew1 | refine below_set ?_ GE1034.out) | exact HB.out)) hb); clear BK1034; clear HB; have BK1034 := n0_; have HB := n1_; clear n0_ n1_; (try clear hb); (try clear hb2); (try clear hk); (try clear hi); have hcz46_0 : w45.cell? ⟨gb1034, 0, none⟩ = some (.string a0_0) := (blk_cell BK1034.out 0).trans rfl; have hcz46_1 : w45.cell? ⟨gb1034, 1, none⟩ = some (.string a0_1) := (blk_cell BK1034.out 1).trans rfl; have hcz46_2 : w45.cell? ⟨gb1034, 2, none⟩ = some (.int .i64 a0_2) := (blk_cell BK1034.out 2).trans rfl; have hcz46_3 : w45.cell? ⟨gb1034, 3, none⟩ = some (.int .i64 a0_3) := (blk_cell BK1034.out 3).trans rfl; have hcz46_4 : w45.cell? ⟨gb1034, 4, none⟩ = some (.slice A0_4 l0_4.length c0_4) := (blk_cell BK1034.out 4).trans rfl; have hcz46_5 : w45.cell? ⟨gb1034, 5, none⟩ = some (.int .i64 a0_5) := (blk_cell BK1034.out 5).trans rfl; have hcz46_6 : w45.cell? ⟨gb1034, 6, none⟩ = some (.int .i64 a0_6) := (blk_cell BK1034.out 6).trans rfl; have hcz46_7 : w45.cell? ⟨gb1034, 7, none⟩ = some (.int .i64 a0_7) := (blk_cell BK1034.out 7).trans rfl; have hcz46_8 : w45.cell? ⟨gb1034, 8, none⟩ = some (.int .i64 a0_8) := (blk_cell BK1034.out 8).trans rfl; have hcz46_9 : w45.cell? ⟨gb1034, 9, none⟩ = some (.slice A0_9 l0_9.length c0_9) := (blk_cell BK1034.out 9).trans rfl; have hfz46_0 := blk_frozen BK1034.out 0; have hfz46_1 := blk_frozen BK1034.out 1; have hfz46_2 := blk_frozen BK1034.out 2; have hfz46_3 := blk_frozen BK1034.out 3; have hfz46_4 := blk_frozen BK1034.out 4; have hfz46_5 := blk_frozen BK1034.out 5; have hfz46_6 := blk_frozen BK1034.out 6; have hfz46_7 := blk_frozen BK1034.out 7; have hfz46_8 := blk_frozen BK1034.out 8; have hfz46_9 := blk_frozen BK1034.out 9) | (go_at_call 107; (with_reducible refine (impl_notesOk.calls k1 _ _ l0_9 t1043 _ ?side1 ?side2 A43.out).mono ?_); (case side1 => repeat (first | exact (Kd.C_below HR0_9.out HB.out) | (with_reducible refine Kd.C_alloc ?_ _) | (with_reducible refine Kd.C_drewN ?_ _) | (with_reducible refine Kd.C_drew ?_))); (case side2 => exact HC0_9.out); rintro e w47 ⟨rfl, hb⟩; have n0_ := Aside0.mk (blk_below (g := gb1034) (o := .cells #[.string a0_0, .string a0_1, .int .i64 a0_2, .int .i64 a0_3, .slice A0_4 l0_4.length c0_4, .int .i64 a0_5, .int .i64 a0_6, .int .i64 a0_7, .int .i64 a0_8, .slice A0_9 l0_9.length c0_9] 65 (0, 0)) (by (with_reducible repeat (first | refine blk_drewN ?_ _ | refine blk_drew ?_ | refine blk_alloc ?_ _)); exact BK1034.out) hb); have n1_ := Aside0.mk (below_step (by repeat (first | (with_reducible first | exact HB.out | apply below_alloc | apply pw_below_drewN | apply below_drew1 | refine below_set ?_ GE1034.out) | exact HB.out)) hb); clear BK1034; clear HB; have BK1034 := n0_; have HB := n1_; clear n0_ n1_; (try clear hb); (try clear hb2); (try clear hk); (try clear hi)))
                    go_ret
                    exact ⟨by first | rfl | (simp [errW_none, errW_some] <;> rfl) | (simp [*, errW_none, errW_some] <;> rfl), by repeat (first | (with_reducible first | exact HB.out | apply below_alloc | apply pw_below_drewN | apply below_drew1 | refine below_set ?_ GE1034.out) | exact HB.out)⟩
                  · replace c42 := Bool.eq_false_iff.mpr c42
                    subst c42
                    have H1 : (some false) = some r := by rw [if_neg (show ¬ (false = true) by decide)] at H; exact H
                    clear H
                    have H := H1
                    clear H1
                    obtain rfl := Option.some.inj H
                    have hcz48_0 : wr.cell? ⟨gb1034, 0, none⟩ = some (.string a0_0) := (blk_cell BK1034.out 0).trans rfl
                    have hcz48_1 : wr.cell? ⟨gb1034, 1, none⟩ = some (.string a0_1) := (blk_cell BK1034.out 1).trans rfl
                    have hcz48_2 : wr.cell? ⟨gb1034, 2, none⟩ = some (.int .i64 a0_2) := (blk_cell BK1034.out 2).trans rfl
                    have hcz48_3 : wr.cell? ⟨gb1034, 3, none⟩ = some (.int .i64 a0_3) := (blk_cell BK1034.out 3).trans rfl
                    have hcz48_4 : wr.cell? ⟨gb1034, 4, none⟩ = some (.slice A0_4 l0_4.length c0_4) := (blk_cell BK1034.out 4).trans rfl
                    have hcz48_5 : wr.cell? ⟨gb1034, 5, none⟩ = some (.int .i64 a0_5) := (blk_cell BK1034.out 5).trans rfl
                    have hcz48_6 : wr.cell? ⟨gb1034, 6, none⟩ = some (.int .i64 a0_6) := (blk_cell BK1034.out 6).trans rfl
                    have hcz48_7 : wr.cell? ⟨gb1034, 7, none⟩ = some (.int .i64 a0_7) := (blk_cell BK1034.out 7).trans rfl
                    have hcz48_8 : wr.cell? ⟨gb1034, 8, none⟩ = some (.int .i64 a0_8) := (blk_cell BK1034.out 8).trans rfl
                    have hcz48_9 : wr.cell? ⟨gb1034, 9, none⟩ = some (.slice A0_9 l0_9.length c0_9) := (blk_cell BK1034.out 9).trans rfl
                    have hfz48_0 := blk_frozen BK1034.out 0
                    have hfz48_1 := blk_frozen BK1034.out 1
                    have hfz48_2 := blk_frozen BK1034.out 2
                    have hfz48_3 := blk_frozen BK1034.out 3
                    have hfz48_4 := blk_frozen BK1034.out 4
                    have hfz48_5 := blk_frozen BK1034.out 5
                    have hfz48_6 := blk_frozen BK1034.out 6
                    have hfz48_7 := blk_frozen BK1034.out 7
                    have hfz48_8 := blk_frozen BK1034.out 8
                    have hfz48_9 := blk_frozen BK1034.out 9
                    go_wp2_with (first | ((with_reducible refine gate_callee (f := 24) rfl ?_); refine goesL_ (some 35) rfl rfl Try.func24 (by kernel_rfl) rfl #[.string a0_0] rfl (by (try simp only [List.map_toArray, List.map_cons, List.map_nil]); first | done | rfl | (simp only [List.length_drop, List.length_take]; rfl)) ?_; (with_reducible refine (impl_NameOk.calls k1 a0_0 true _ A33.out).mono ?_); rintro e w' ⟨rfl, ⟨nd, rfl⟩⟩; refine ⟨_, rfl, ?_⟩) | (go_at_call 24; (with_reducible refine (impl_NameOk.calls k1 a0_1 true _ A35.out).mono ?_); rintro e w' ⟨rfl, ⟨nd, rfl⟩⟩) | (go_at_call 80; (with_reducible refine (impl_from.calls a0_2 1 a0_3 true _ A37.out).mono ?_); rintro e w' ⟨rfl, ⟨nd, rfl⟩⟩) | (go_at_call 22; (with_reducible refine (impl_PaceOk.calls a0_5 a0_6 a0_7 a0_8 false _ A41.out).mono ?_); rintro e w49 ⟨rfl, hb⟩; have n0_ := Aside0.mk (blk_below (g := gb1034) (o := .cells #[.string a0_0, .string a0_1, .int .i64 a0_2, .int .i64 a0_3, .slice A0_4 l0_4.length c0_4, .int .i64 a0_5, .int .i64 a0_6, .int .i64 a0_7, .int .i64 a0_8, .slice A0_9 l0_9.length c0_9] 65 (0, 0)) (by (with_reducible repeat (first | refine blk_drewN ?_ _ | refine blk_drew ?_ | refine blk_alloc ?_ _)); exact BK1034.out) hb); have n1_ := Aside0.mk (below_step (by repeat (first | (with_reducible first | exact HB.out | apply below_alloc | apply pw_below_drewN | apply below_drew1 | refine below_set ?_ GE1034.out) | exact HB.out)) hb); clear BK1034; clear HB; have BK1034 := n0_; have HB := n1_; clear n0_ n1_; (try clear hb); (try clear hb2); (try clear hk); (try clear hi)))
                    go_ret
                    exact ⟨by first | rfl | (simp [errW_none, errW_some] <;> rfl) | (simp [*, errW_none, errW_some] <;> rfl), by repeat (first | (with_reducible first | exact HB.out | apply below_alloc | apply pw_below_drewN | apply below_drew1 | refine below_set ?_ GE1034.out) | exact HB.out)⟩
                · rw [if_neg c40] at H
                  have c40b0 : decide ((l0_4.length : Int) ≤ 4) = false := decide_eq_false c40
                  have c40b1 : decide (l0_4.length ≤ 4) = false := decide_eq_false (by omega)
                  clear c40
                  obtain rfl := Option.some.inj H
                  have hcz50_0 : wr.cell? ⟨gb1034, 0, none⟩ = some (.string a0_0) := (blk_cell BK1034.out 0).trans rfl
                  have hcz50_1 : wr.cell? ⟨gb1034, 1, none⟩ = some (.string a0_1) := (blk_cell BK1034.out 1).trans rfl
                  have hcz50_2 : wr.cell? ⟨gb1034, 2, none⟩ = some (.int .i64 a0_2) := (blk_cell BK1034.out 2).trans rfl
                  have hcz50_3 : wr.cell? ⟨gb1034, 3, none⟩ = some (.int .i64 a0_3) := (blk_cell BK1034.out 3).trans rfl
                  have hcz50_4 : wr.cell? ⟨gb1034, 4, none⟩ = some (.slice A0_4 l0_4.length c0_4) := (blk_cell BK1034.out 4).trans rfl
                  have hcz50_5 : wr.cell? ⟨gb1034, 5, none⟩ = some (.int .i64 a0_5) := (blk_cell BK1034.out 5).trans rfl
                  have hcz50_6 : wr.cell? ⟨gb1034, 6, none⟩ = some (.int .i64 a0_6) := (blk_cell BK1034.out 6).trans rfl
                  have hcz50_7 : wr.cell? ⟨gb1034, 7, none⟩ = some (.int .i64 a0_7) := (blk_cell BK1034.out 7).trans rfl
                  have hcz50_8 : wr.cell? ⟨gb1034, 8, none⟩ = some (.int .i64 a0_8) := (blk_cell BK1034.out 8).trans rfl
                  have hcz50_9 : wr.cell? ⟨gb1034, 9, none⟩ = some (.slice A0_9 l0_9.length c0_9) := (blk_cell BK1034.out 9).trans rfl
                  have hfz50_0 := blk_frozen BK1034.out 0
                  have hfz50_1 := blk_frozen BK1034.out 1
                  have hfz50_2 := blk_frozen BK1034.out 2
                  have hfz50_3 := blk_frozen BK1034.out 3
                  have hfz50_4 := blk_frozen BK1034.out 4
                  have hfz50_5 := blk_frozen BK1034.out 5
                  have hfz50_6 := blk_frozen BK1034.out 6
                  have hfz50_7 := blk_frozen BK1034.out 7
                  have hfz50_8 := blk_frozen BK1034.out 8
                  have hfz50_9 := blk_frozen BK1034.out 9
                  go_wp2_with (first | ((with_reducible refine gate_callee (f := 24) rfl ?_); refine goesL_ (some 35) rfl rfl Try.func24 (by kernel_rfl) rfl #[.string a0_0] rfl (by (try simp only [List.map_toArray, List.map_cons, List.map_nil]); first | done | rfl | (simp only [List.length_drop, List.length_take]; rfl)) ?_; (with_reducible refine (impl_NameOk.calls k1 a0_0 true _ A33.out).mono ?_); rintro e w' ⟨rfl, ⟨nd, rfl⟩⟩; refine ⟨_, rfl, ?_⟩) | (go_at_call 24; (with_reducible refine (impl_NameOk.calls k1 a0_1 true _ A35.out).mono ?_); rintro e w' ⟨rfl, ⟨nd, rfl⟩⟩) | (go_at_call 80; (with_reducible refine (impl_from.calls a0_2 1 a0_3 true _ A37.out).mono ?_); rintro e w' ⟨rfl, ⟨nd, rfl⟩⟩))
                  go_ret
                  exact ⟨by first | rfl | (simp [errW_none, errW_some] <;> rfl) | (simp [*, errW_none, errW_some] <;> rfl), by repeat (first | (with_reducible first | exact HB.out | apply below_alloc | apply pw_below_drewN | apply below_drew1 | refine below_set ?_ GE1034.out) | exact HB.out)⟩
              · rw [if_neg c39] at H
                have c39b0 : decide (a0_3 ≤ 1000) = false := decide_eq_false c39
                clear c39
                obtain rfl := Option.some.inj H
                have hcz51_0 : wr.cell? ⟨gb1034, 0, none⟩ = some (.string a0_0) := (blk_cell BK1034.out 0).trans rfl
                have hcz51_1 : wr.cell? ⟨gb1034, 1, none⟩ = some (.string a0_1) := (blk_cell BK1034.out 1).trans rfl
                have hcz51_2 : wr.cell? ⟨gb1034, 2, none⟩ = some (.int .i64 a0_2) := (blk_cell BK1034.out 2).trans rfl
                have hcz51_3 : wr.cell? ⟨gb1034, 3, none⟩ = some (.int .i64 a0_3) := (blk_cell BK1034.out 3).trans rfl
                have hcz51_4 : wr.cell? ⟨gb1034, 4, none⟩ = some (.slice A0_4 l0_4.length c0_4) := (blk_cell BK1034.out 4).trans rfl
                have hcz51_5 : wr.cell? ⟨gb1034, 5, none⟩ = some (.int .i64 a0_5) := (blk_cell BK1034.out 5).trans rfl
                have hcz51_6 : wr.cell? ⟨gb1034, 6, none⟩ = some (.int .i64 a0_6) := (blk_cell BK1034.out 6).trans rfl
                have hcz51_7 : wr.cell? ⟨gb1034, 7, none⟩ = some (.int .i64 a0_7) := (blk_cell BK1034.out 7).trans rfl
                have hcz51_8 : wr.cell? ⟨gb1034, 8, none⟩ = some (.int .i64 a0_8) := (blk_cell BK1034.out 8).trans rfl
                have hcz51_9 : wr.cell? ⟨gb1034, 9, none⟩ = some (.slice A0_9 l0_9.length c0_9) := (blk_cell BK1034.out 9).trans rfl
                have hfz51_0 := blk_frozen BK1034.out 0
                have hfz51_1 := blk_frozen BK1034.out 1
                have hfz51_2 := blk_frozen BK1034.out 2
                have hfz51_3 := blk_frozen BK1034.out 3
                have hfz51_4 := blk_frozen BK1034.out 4
                have hfz51_5 := blk_frozen BK1034.out 5
                have hfz51_6 := blk_frozen BK1034.out 6
                have hfz51_7 := blk_frozen BK1034.out 7
                have hfz51_8 := blk_frozen BK1034.out 8
                have hfz51_9 := blk_frozen BK1034.out 9
                go_wp2_with (first | ((with_reducible refine gate_callee (f := 24) rfl ?_); refine goesL_ (some 35) rfl rfl Try.func24 (by kernel_rfl) rfl #[.string a0_0] rfl (by (try simp only [List.map_toArray, List.map_cons, List.map_nil]); first | done | rfl | (simp only [List.length_drop, List.length_take]; rfl)) ?_; (with_reducible refine (impl_NameOk.calls k1 a0_0 true _ A33.out).mono ?_); rintro e w' ⟨rfl, ⟨nd, rfl⟩⟩; refine ⟨_, rfl, ?_⟩) | (go_at_call 24; (with_reducible refine (impl_NameOk.calls k1 a0_1 true _ A35.out).mono ?_); rintro e w' ⟨rfl, ⟨nd, rfl⟩⟩) | (go_at_call 80; (with_reducible refine (impl_from.calls a0_2 1 a0_3 true _ A37.out).mono ?_); rintro e w' ⟨rfl, ⟨nd, rfl⟩⟩))
                go_ret
                exact ⟨by first | rfl | (simp [errW_none, errW_some] <;> rfl) | (simp [*, errW_none, errW_some] <;> rfl), by repeat (first | (with_reducible first | exact HB.out | apply below_alloc | apply pw_below_drewN | apply below_drew1 | refine below_set ?_ GE1034.out) | exact HB.out)⟩
            · replace c38 := Bool.eq_false_iff.mpr c38
              subst c38
              have H1 : (some false) = some r := by rw [if_neg (show ¬ (false = true) by decide)] at H; exact H
              clear H
              have H := H1
              clear H1
              obtain rfl := Option.some.inj H
              have hcz52_0 : wr.cell? ⟨gb1034, 0, none⟩ = some (.string a0_0) := (blk_cell BK1034.out 0).trans rfl
              have hcz52_1 : wr.cell? ⟨gb1034, 1, none⟩ = some (.string a0_1) := (blk_cell BK1034.out 1).trans rfl
              have hcz52_2 : wr.cell? ⟨gb1034, 2, none⟩ = some (.int .i64 a0_2) := (blk_cell BK1034.out 2).trans rfl
              have hcz52_3 : wr.cell? ⟨gb1034, 3, none⟩ = some (.int .i64 a0_3) := (blk_cell BK1034.out 3).trans rfl
              have hcz52_4 : wr.cell? ⟨gb1034, 4, none⟩ = some (.slice A0_4 l0_4.length c0_4) := (blk_cell BK1034.out 4).trans rfl
              have hcz52_5 : wr.cell? ⟨gb1034, 5, none⟩ = some (.int .i64 a0_5) := (blk_cell BK1034.out 5).trans rfl
              have hcz52_6 : wr.cell? ⟨gb1034, 6, none⟩ = some (.int .i64 a0_6) := (blk_cell BK1034.out 6).trans rfl
              have hcz52_7 : wr.cell? ⟨gb1034, 7, none⟩ = some (.int .i64 a0_7) := (blk_cell BK1034.out 7).trans rfl
              have hcz52_8 : wr.cell? ⟨gb1034, 8, none⟩ = some (.int .i64 a0_8) := (blk_cell BK1034.out 8).trans rfl
              have hcz52_9 : wr.cell? ⟨gb1034, 9, none⟩ = some (.slice A0_9 l0_9.length c0_9) := (blk_cell BK1034.out 9).trans rfl
              have hfz52_0 := blk_frozen BK1034.out 0
              have hfz52_1 := blk_frozen BK1034.out 1
              have hfz52_2 := blk_frozen BK1034.out 2
              have hfz52_3 := blk_frozen BK1034.out 3
              have hfz52_4 := blk_frozen BK1034.out 4
              have hfz52_5 := blk_frozen BK1034.out 5
              have hfz52_6 := blk_frozen BK1034.out 6
              have hfz52_7 := blk_frozen BK1034.out 7
              have hfz52_8 := blk_frozen BK1034.out 8
              have hfz52_9 := blk_frozen BK1034.out 9
              go_wp2_with (first | ((with_reducible refine gate_callee (f := 24) rfl ?_); refine goesL_ (some 35) rfl rfl Try.func24 (by kernel_rfl) rfl #[.string a0_0] rfl (by (try simp only [List.map_toArray, List.map_cons, List.map_nil]); first | done | rfl | (simp only [List.length_drop, List.length_take]; rfl)) ?_; (with_reducible refine (impl_NameOk.calls k1 a0_0 true _ A33.out).mono ?_); rintro e w' ⟨rfl, ⟨nd, rfl⟩⟩; refine ⟨_, rfl, ?_⟩) | (go_at_call 24; (with_reducible refine (impl_NameOk.calls k1 a0_1 true _ A35.out).mono ?_); rintro e w' ⟨rfl, ⟨nd, rfl⟩⟩) | (go_at_call 80; (with_reducible refine (impl_from.calls a0_2 1 a0_3 false _ A37.out).mono ?_); rintro e w' ⟨rfl, ⟨nd, rfl⟩⟩))
              go_ret
              exact ⟨by first | rfl | (simp [errW_none, errW_some] <;> rfl) | (simp [*, errW_none, errW_some] <;> rfl), by repeat (first | (with_reducible first | exact HB.out | apply below_alloc | apply pw_below_drewN | apply below_drew1 | refine below_set ?_ GE1034.out) | exact HB.out)⟩
          · replace c36 := Bool.eq_false_iff.mpr c36
            subst c36
            have H1 : (some false) = some r := by rw [if_neg (show ¬ (false = true) by decide)] at H; exact H
            clear H
            have H := H1
            clear H1
            obtain rfl := Option.some.inj H
            have hcz53_0 : wr.cell? ⟨gb1034, 0, none⟩ = some (.string a0_0) := (blk_cell BK1034.out 0).trans rfl
            have hcz53_1 : wr.cell? ⟨gb1034, 1, none⟩ = some (.string a0_1) := (blk_cell BK1034.out 1).trans rfl
            have hcz53_2 : wr.cell? ⟨gb1034, 2, none⟩ = some (.int .i64 a0_2) := (blk_cell BK1034.out 2).trans rfl
            have hcz53_3 : wr.cell? ⟨gb1034, 3, none⟩ = some (.int .i64 a0_3) := (blk_cell BK1034.out 3).trans rfl
            have hcz53_4 : wr.cell? ⟨gb1034, 4, none⟩ = some (.slice A0_4 l0_4.length c0_4) := (blk_cell BK1034.out 4).trans rfl
            have hcz53_5 : wr.cell? ⟨gb1034, 5, none⟩ = some (.int .i64 a0_5) := (blk_cell BK1034.out 5).trans rfl
            have hcz53_6 : wr.cell? ⟨gb1034, 6, none⟩ = some (.int .i64 a0_6) := (blk_cell BK1034.out 6).trans rfl
            have hcz53_7 : wr.cell? ⟨gb1034, 7, none⟩ = some (.int .i64 a0_7) := (blk_cell BK1034.out 7).trans rfl
            have hcz53_8 : wr.cell? ⟨gb1034, 8, none⟩ = some (.int .i64 a0_8) := (blk_cell BK1034.out 8).trans rfl
            have hcz53_9 : wr.cell? ⟨gb1034, 9, none⟩ = some (.slice A0_9 l0_9.length c0_9) := (blk_cell BK1034.out 9).trans rfl
            have hfz53_0 := blk_frozen BK1034.out 0
            have hfz53_1 := blk_frozen BK1034.out 1
            have hfz53_2 := blk_frozen BK1034.out 2
            have hfz53_3 := blk_frozen BK1034.out 3
            have hfz53_4 := blk_frozen BK1034.out 4
            have hfz53_5 := blk_frozen BK1034.out 5
            have hfz53_6 := blk_frozen BK1034.out 6
            have hfz53_7 := blk_frozen BK1034.out 7
            have hfz53_8 := blk_frozen BK1034.out 8
            have hfz53_9 := blk_frozen BK1034.out 9
            go_wp2_with (first | ((with_reducible refine gate_callee (f := 24) rfl ?_); refine goesL_ (some 35) rfl rfl Try.func24 (by kernel_rfl) rfl #[.string a0_0] rfl (by (try simp only [List.map_toArray, List.map_cons, List.map_nil]); first | done | rfl | (simp only [List.length_drop, List.length_take]; rfl)) ?_; (with_reducible refine (impl_NameOk.calls k1 a0_0 true _ A33.out).mono ?_); rintro e w' ⟨rfl, ⟨nd, rfl⟩⟩; refine ⟨_, rfl, ?_⟩) | (go_at_call 24; (with_reducible refine (impl_NameOk.calls k1 a0_1 false _ A35.out).mono ?_); rintro e w' ⟨rfl, ⟨nd, rfl⟩⟩))
            go_ret
            exact ⟨by first | rfl | (simp [errW_none, errW_some] <;> rfl) | (simp [*, errW_none, errW_some] <;> rfl), by repeat (first | (with_reducible first | exact HB.out | apply below_alloc | apply pw_below_drewN | apply below_drew1 | refine below_set ?_ GE1034.out) | exact HB.out)⟩
        · replace c34 := Bool.eq_false_iff.mpr c34
          subst c34
          have H1 : (some false) = some r := by rw [if_neg (show ¬ (false = true) by decide)] at H; exact H
          clear H
          have H := H1
          clear H1
          obtain rfl := Option.some.inj H
          have hcz54_0 : wr.cell? ⟨gb1034, 0, none⟩ = some (.string a0_0) := (blk_cell BK1034.out 0).trans rfl
          have hcz54_1 : wr.cell? ⟨gb1034, 1, none⟩ = some (.string a0_1) := (blk_cell BK1034.out 1).trans rfl
          have hcz54_2 : wr.cell? ⟨gb1034, 2, none⟩ = some (.int .i64 a0_2) := (blk_cell BK1034.out 2).trans rfl
          have hcz54_3 : wr.cell? ⟨gb1034, 3, none⟩ = some (.int .i64 a0_3) := (blk_cell BK1034.out 3).trans rfl
          have hcz54_4 : wr.cell? ⟨gb1034, 4, none⟩ = some (.slice A0_4 l0_4.length c0_4) := (blk_cell BK1034.out 4).trans rfl
          have hcz54_5 : wr.cell? ⟨gb1034, 5, none⟩ = some (.int .i64 a0_5) := (blk_cell BK1034.out 5).trans rfl
          have hcz54_6 : wr.cell? ⟨gb1034, 6, none⟩ = some (.int .i64 a0_6) := (blk_cell BK1034.out 6).trans rfl
          have hcz54_7 : wr.cell? ⟨gb1034, 7, none⟩ = some (.int .i64 a0_7) := (blk_cell BK1034.out 7).trans rfl
          have hcz54_8 : wr.cell? ⟨gb1034, 8, none⟩ = some (.int .i64 a0_8) := (blk_cell BK1034.out 8).trans rfl
          have hcz54_9 : wr.cell? ⟨gb1034, 9, none⟩ = some (.slice A0_9 l0_9.length c0_9) := (blk_cell BK1034.out 9).trans rfl
          have hfz54_0 := blk_frozen BK1034.out 0
          have hfz54_1 := blk_frozen BK1034.out 1
          have hfz54_2 := blk_frozen BK1034.out 2
          have hfz54_3 := blk_frozen BK1034.out 3
          have hfz54_4 := blk_frozen BK1034.out 4
          have hfz54_5 := blk_frozen BK1034.out 5
          have hfz54_6 := blk_frozen BK1034.out 6
          have hfz54_7 := blk_frozen BK1034.out 7
          have hfz54_8 := blk_frozen BK1034.out 8
          have hfz54_9 := blk_frozen BK1034.out 9
          go_wp2_with (first | ((with_reducible refine gate_callee (f := 24) rfl ?_); refine goesL_ (some 35) rfl rfl Try.func24 (by kernel_rfl) rfl #[.string a0_0] rfl (by (try simp only [List.map_toArray, List.map_cons, List.map_nil]); first | done | rfl | (simp only [List.length_drop, List.length_take]; rfl)) ?_; (with_reducible refine (impl_NameOk.calls k1 a0_0 false _ A33.out).mono ?_); rintro e w' ⟨rfl, ⟨nd, rfl⟩⟩; refine ⟨_, rfl, ?_⟩))
          go_ret
          exact ⟨by first | rfl | (simp [errW_none, errW_some] <;> rfl) | (simp [*, errW_none, errW_some] <;> rfl), by repeat (first | (with_reducible first | exact HB.out | apply below_alloc | apply pw_below_drewN | apply below_drew1 | refine below_set ?_ GE1034.out) | exact HB.out)⟩

end Go.Proofs.Ytjkanclhlnojhaa.P
