-- Made by drive.py (a program of this session) over the kit's print; not written line by line by a hand.
import Derived.Test.YtnbnpgjgibcmpaaP0
import Derived.Test.YtnbnpgjgibcmpaaP_spec_l3At
import Derived.Test.YtnbnpgjgibcmpaaP_spec_l3Copy
namespace Go.Proofs.Ytnbnpgjgibcmpaa.P
open Go.RowKit Go.Proofs.YtnbnpgjgibcmpaaW.PrintWords Go.Proofs.YtnbnpgjgibcmpaaW.PrintLast Go.Proofs.YtnbnpgjgibcmpaaW.PrintMore
attribute [local go_sem] max2_int min2_int max_two min_two max_three min_three max_four min_four   -- for this text's walks alone
set_option linter.unusedVariables false
set_option linter.unusedSimpArgs false

/-! ### spec_Unset: function 47 -/
def spec_Unset.f (k : Nat) (a0_0 : Int) (a0_1 : Int) (a0_2 : ByteArray) (l0_3 : List ByteArray) (l0_4 : List (S25)) (a1 : ByteArray) : Option (Int × Int × ByteArray × List ByteArray × (List (S25))) := (spec_l3Copy.f k a0_0 a0_1 a0_2 l0_3 l0_4).bind fun bt817 => ((spec_l3At.f k a0_0 a0_1 a0_2 l0_3 l0_4 a1).bind fun t827 => (if t827 < 0 then (some (bt817.1, bt817.2.1, bt817.2.2.1, bt817.2.2.2.1, bt817.2.2.2.2)) else (if (l0_3.length : Int) = (l0_4.length : Int) then ((some (([] : List ByteArray) : List ByteArray)).bind fun y828 => (if 0 ≤ t827 then (if t827 ≤ (bt817.2.2.2.1.length : Int) then ((some (bt817.2.2.2.1.take (t827 : Int).toNat : List ByteArray)).bind fun y831 => (if y828.length + y831.length < 8796093022208 then ((some (y828 ++ y831 : List ByteArray)).bind fun y836 => (if 0 ≤ (wrap64 (t827 + 1)) then (if (wrap64 (t827 + 1)) ≤ (bt817.2.2.2.1.length : Int) then ((some (bt817.2.2.2.1.drop ((wrap64 (t827 + 1)) : Int).toNat : List ByteArray)).bind fun y839 => (if y836.length + y839.length < 8796093022208 then ((some (([] : List (S25)) : List (S25))).bind fun y847 => (if t827 ≤ (bt817.2.2.2.2.length : Int) then ((some (bt817.2.2.2.2.take (t827 : Int).toNat : List (S25))).bind fun y850 => (if y847.length + y850.length < 1759218604441 then ((some (y847 ++ y850 : List (S25))).bind fun y855 => (if (wrap64 (t827 + 1)) ≤ (bt817.2.2.2.2.length : Int) then ((some (bt817.2.2.2.2.drop ((wrap64 (t827 + 1)) : Int).toNat : List (S25))).bind fun y858 => (if y855.length + y858.length < 1759218604441 then (some (bt817.1, bt817.2.1, bt817.2.2.1, (y836 ++ y839), (y855 ++ y858))) else (none))) else (none))) else (none))) else (none))) else (none))) else (none)) else (none))) else (none))) else (none)) else (none))) else (some (bt817.1, bt817.2.1, bt817.2.2.1, bt817.2.2.2.1, bt817.2.2.2.2)))))
theorem spec_Unset.mono : ∀ a0 a1 a2 a3 a4 a5 k, LeO (spec_Unset.f k a0 a1 a2 a3 a4 a5) (spec_Unset.f (k + 1) a0 a1 a2 a3 a4 a5) := by
  intro a0 a1 a2 a3 a4 a5 k
  unfold spec_Unset.f
  repeat' first
      | (with_reducible exact spec_l3At.mono _ _ _ _ _ _ _)
      | (with_reducible exact spec_l3Copy.mono _ _ _ _ _ _)
      | (with_reducible exact LeO.refl _)
      | (with_reducible exact LeO.none _)
      | (with_reducible refine LeO.ite ?_ ?_)
      | (with_reducible refine LeO.bind ?_ (fun _ => ?_))
      | exact spec_l3At.mono _ _ _ _ _ _ _
      | exact spec_l3Copy.mono _ _ _ _ _ _
      | exact LeO.none _
      | refine LeO.ite ?_ ?_
      | refine LeO.bind ?_ (fun _ => ?_)
def spec_Unset.T5 : Bool × List (List Nat × List Nat) := (true, [([], []), ([], []), ([1], [1]), ([], []), ([2, 3], [2, 3]), ([0, 4], [0, 4]), ([], []), ([6], [6]), ([], []), ([8], [8]), ([7, 9], [7, 9]), ([5, 10, 5], [5, 10]), ([0, 1, 2, 3, 4, 5, 6, 7, 8, 9, 10, 11], []), ([12, 11, 11, 0, 1, 2, 3, 4, 5, 6, 7, 8, 9, 10, 11], [11, 12])])
def spec_Unset.B5 : List Nat := [0, 0, 2, 0, 14, 31, 0, 64, 0, 256, 960, 2047, 4095, 8191]
theorem spec_Unset.tab5 : rtab .any (opsOf Try.f47 5) = spec_Unset.T5 := by kernel_rfl
theorem spec_Unset.bits5 : waitsOk spec_Unset.T5.2 spec_Unset.B5 = true := by kernel_rfl
def spec_Unset.T6 : Bool × List (List Nat × List Nat) := (true, [([], []), ([], []), ([1], [1]), ([], []), ([2, 3], [2, 3]), ([0, 4], [0, 4]), ([], []), ([6], [6]), ([], []), ([8], [8]), ([7, 9], [7, 9]), ([5, 10, 5], [5, 10]), ([0, 1, 2, 3, 4, 5, 6, 7, 8, 9, 10, 11], []), ([12, 11, 11, 0, 1, 2, 3, 4, 5, 6, 7, 8, 9, 10, 11], [11, 12])])
def spec_Unset.B6 : List Nat := [0, 0, 2, 0, 14, 31, 0, 64, 0, 256, 960, 2047, 4095, 8191]
theorem spec_Unset.tab6 : rtab .any (opsOf Try.f47 6) = spec_Unset.T6 := by kernel_rfl
theorem spec_Unset.bits6 : waitsOk spec_Unset.T6.2 spec_Unset.B6 = true := by kernel_rfl
set_option maxHeartbeats 8000000 in
set_option maxRecDepth 100000 in
theorem spec_Unset.calls (k : Nat) (a0_0 : Int) (a0_1 : Int) (a0_2 : ByteArray) (A0_3 : Option Addr) (c0_3 : Nat) (l0_3 : List ByteArray) (A0_4 : Option Addr) (c0_4 : Nat) (l0_4 : List (S25)) (a1 : ByteArray) (r1 : Int) (r2 : Int) (r3 : ByteArray) (r4 : List ByteArray) (r5 : List (S25)) (w : World) (hr0_3 : Kd.C Kd.string w A0_3 l0_3.length l0_3) (hc0_3 : l0_3.length ≤ c0_3) (hr0_4 : Kd.C k25 w A0_4 l0_4.length l0_4) (hc0_4 : l0_4.length ≤ c0_4) (h : spec_Unset.f k a0_0 a0_1 a0_2 l0_3 l0_4 a1 = some (r1, r2, r3, r4, r5)) :
    Calls Try.prog 47 #[.agg #[.int .i64 a0_0, .int .i64 a0_1, .string a0_2, .slice A0_3 l0_3.length c0_3, .slice A0_4 l0_4.length c0_4], .string a1] w fun e w' => ∃ v3_ v4_ : Value, e = .returned (.agg #[.int .i64 r1, .int .i64 r2, .string r3, v3_, v4_]) ∧ Kd.R Kd.string 9 w' w.heap.size (fun k_ => (w.heap.size ≤ k_)) v3_ r4 ∧ Kd.N k25 25 w' w.heap.size (fun k_ => (w.heap.size ≤ k_) ∧ some k_ ≠ (v3_ : Value).ownBlock) v4_ r5 ∧ Below w.heap.size w w' := by
  have hu25 := Try.underlying25
  have HR0_3 := Aside0.mk hr0_3
  have HC0_3 := Aside0.mk hc0_3
  clear hr0_3 hc0_3
  have HR0_4 := Aside0.mk hr0_4
  have HC0_4 := Aside0.mk hc0_4
  clear hr0_4 hc0_4
  have HB := Aside0.mk (Below.refl w.heap.size w)
  have H : ((spec_l3Copy.f k a0_0 a0_1 a0_2 l0_3 l0_4).bind fun bt817 => ((spec_l3At.f k a0_0 a0_1 a0_2 l0_3 l0_4 a1).bind fun t827 => (if t827 < 0 then (some (bt817.1, bt817.2.1, bt817.2.2.1, bt817.2.2.2.1, bt817.2.2.2.2)) else (if (l0_3.length : Int) = (l0_4.length : Int) then ((some (([] : List ByteArray) : List ByteArray)).bind fun y828 => (if 0 ≤ t827 then (if t827 ≤ (bt817.2.2.2.1.length : Int) then ((some (bt817.2.2.2.1.take (t827 : Int).toNat : List ByteArray)).bind fun y831 => (if y828.length + y831.length < 8796093022208 then ((some (y828 ++ y831 : List ByteArray)).bind fun y836 => (if 0 ≤ (wrap64 (t827 + 1)) then (if (wrap64 (t827 + 1)) ≤ (bt817.2.2.2.1.length : Int) then ((some (bt817.2.2.2.1.drop ((wrap64 (t827 + 1)) : Int).toNat : List ByteArray)).bind fun y839 => (if y836.length + y839.length < 8796093022208 then ((some (([] : List (S25)) : List (S25))).bind fun y847 => (if t827 ≤ (bt817.2.2.2.2.length : Int) then ((some (bt817.2.2.2.2.take (t827 : Int).toNat : List (S25))).bind fun y850 => (if y847.length + y850.length < 1759218604441 then ((some (y847 ++ y850 : List (S25))).bind fun y855 => (if (wrap64 (t827 + 1)) ≤ (bt817.2.2.2.2.length : Int) then ((some (bt817.2.2.2.2.drop ((wrap64 (t827 + 1)) : Int).toNat : List (S25))).bind fun y858 => (if y855.length + y858.length < 1759218604441 then (some (bt817.1, bt817.2.1, bt817.2.2.1, (y836 ++ y839), (y855 ++ y858))) else (none))) else (none))) else (none))) else (none))) else (none))) else (none)) else (none))) else (none))) else (none)) else (none))) else (some (bt817.1, bt817.2.1, bt817.2.2.1, bt817.2.2.2.1, bt817.2.2.2.2)))))) = some (r1, r2, r3, r4, r5) := h
  clear h
  replace H := Option.bind_eq_some_iff.mp H
  obtain ⟨⟨t817, t818, t819, t820, t823⟩, A30, H⟩ := H
  replace H : ((spec_l3At.f k a0_0 a0_1 a0_2 l0_3 l0_4 a1).bind fun t827 => (if t827 < 0 then (some (t817, t818, t819, t820, t823)) else (if (l0_3.length : Int) = (l0_4.length : Int) then ((some (([] : List ByteArray) : List ByteArray)).bind fun y828 => (if 0 ≤ t827 then (if t827 ≤ (t820.length : Int) then ((some (t820.take (t827 : Int).toNat : List ByteArray)).bind fun y831 => (if y828.length + y831.length < 8796093022208 then ((some (y828 ++ y831 : List ByteArray)).bind fun y836 => (if 0 ≤ (wrap64 (t827 + 1)) then (if (wrap64 (t827 + 1)) ≤ (t820.length : Int) then ((some (t820.drop ((wrap64 (t827 + 1)) : Int).toNat : List ByteArray)).bind fun y839 => (if y836.length + y839.length < 8796093022208 then ((some (([] : List (S25)) : List (S25))).bind fun y847 => (if t827 ≤ (t823.length : Int) then ((some (t823.take (t827 : Int).toNat : List (S25))).bind fun y850 => (if y847.length + y850.length < 1759218604441 then ((some (y847 ++ y850 : List (S25))).bind fun y855 => (if (wrap64 (t827 + 1)) ≤ (t823.length : Int) then ((some (t823.drop ((wrap64 (t827 + 1)) : Int).toNat : List (S25))).bind fun y858 => (if y855.length + y858.length < 1759218604441 then (some (t817, t818, t819, (y836 ++ y839), (y855 ++ y858))) else (none))) else (none))) else (none))) else (none))) else (none))) else (none)) else (none))) else (none))) else (none)) else (none))) else (some (t817, t818, t819, t820, t823))))) = some (r1, r2, r3, r4, r5) := H
  have A3 := Aside0.mk A30
  clear A30
  replace H := Option.bind_eq_some_iff.mp H
  obtain ⟨t827, A40, H⟩ := H
  replace H : (if t827 < 0 then (some (t817, t818, t819, t820, t823)) else (if (l0_3.length : Int) = (l0_4.length : Int) then ((some (([] : List ByteArray) : List ByteArray)).bind fun y828 => (if 0 ≤ t827 then (if t827 ≤ (t820.length : Int) then ((some (t820.take (t827 : Int).toNat : List ByteArray)).bind fun y831 => (if y828.length + y831.length < 8796093022208 then ((some (y828 ++ y831 : List ByteArray)).bind fun y836 => (if 0 ≤ (wrap64 (t827 + 1)) then (if (wrap64 (t827 + 1)) ≤ (t820.length : Int) then ((some (t820.drop ((wrap64 (t827 + 1)) : Int).toNat : List ByteArray)).bind fun y839 => (if y836.length + y839.length < 8796093022208 then ((some (([] : List (S25)) : List (S25))).bind fun y847 => (if t827 ≤ (t823.length : Int) then ((some (t823.take (t827 : Int).toNat : List (S25))).bind fun y850 => (if y847.length + y850.length < 1759218604441 then ((some (y847 ++ y850 : List (S25))).bind fun y855 => (if (wrap64 (t827 + 1)) ≤ (t823.length : Int) then ((some (t823.drop ((wrap64 (t827 + 1)) : Int).toNat : List (S25))).bind fun y858 => (if y855.length + y858.length < 1759218604441 then (some (t817, t818, t819, (y836 ++ y839), (y855 ++ y858))) else (none))) else (none))) else (none))) else (none))) else (none))) else (none)) else (none))) else (none))) else (none)) else (none))) else (some (t817, t818, t819, t820, t823)))) = some (r1, r2, r3, r4, r5) := H
  have A4 := Aside0.mk A40
  clear A40
  by_cases c5 : t827 < 0
  · rw [if_pos c5] at H
    have c5b0 : decide (t827 < 0) = true := decide_eq_true c5
    clear c5
    simp only [Option.some.injEq, Prod.mk.injEq] at H
    obtain ⟨rfl, rfl, rfl, rfl, rfl⟩ := H
    go_enter Try.func47, Try.ntmps47
    go_wp2_with (first | ((with_reducible refine gate_dst (N := 2) rfl ?_); (try (refine gate_guard (by rfl) ?_; dsimp only)); refine box_event ?hg (N := 2) ?hd (cs := #[.int .i64 a0_0, .int .i64 a0_1, .string a0_2, .slice A0_3 l0_3.length c0_3, .slice A0_4 l0_4.length c0_4]) (t := 25) ?hr ?_; (case hd => rfl); (case hg => rfl); (case hr => first | (go_simp; done) | (go_simp; rfl)); intro gb815 hg w6 hbox hb; have n0_ := Aside0.mk (below_step (by repeat (first | (with_reducible first | exact HB.out | apply below_alloc | apply pw_below_drewN | apply below_drew1) | exact HB.out)) hb); have n1_ := Aside0.mk (hbox); have n2_ := Aside0.mk ((by rw [hg]; exact (below_size (by repeat (first | (with_reducible first | exact HB.out | apply below_alloc | apply pw_below_drewN | apply below_drew1) | exact HB.out))) : w.heap.size ≤ gb815)); have n3_ := Aside0.mk ((by rw [hg]; exact (below_size (by repeat (first | (with_reducible first | exact HB.out | apply below_alloc | apply pw_below_drewN | apply below_drew1) | exact HB.out))) : w.heap.size ≤ gb815)); clear HB; have HB := n0_; have BK815 := n1_; have GW815 := n2_; have GE815 := n3_; clear n0_ n1_ n2_ n3_; clear hb hbox hg) | ((with_reducible refine gate_dst (N := 4) rfl ?_); (try (refine gate_guard (by rfl) ?_; dsimp only)); refine box_event ?hg (N := 4) ?hd (cs := #[.int .i64 0, .int .i64 0, .string (⟨#[]⟩ : ByteArray), .slice none 0 0, .slice none 0 0]) (t := 25) ?hr ?_; (case hd => rfl); (case hg => rfl); (case hr => first | (go_simp; done) | (go_simp; rfl)); intro gb816 hg w7 hbox hb; have n0_ := Aside0.mk (blk_below (g := gb815) (o := .cells #[.int .i64 a0_0, .int .i64 a0_1, .string a0_2, .slice A0_3 l0_3.length c0_3, .slice A0_4 l0_4.length c0_4] 25 (0, 0)) (by (with_reducible repeat (first | refine blk_drewN ?_ _ | refine blk_drew ?_ | refine blk_alloc ?_ _)); exact BK815.out) hb); have n1_ := Aside0.mk (below_step (by repeat (first | (with_reducible first | exact HB.out | apply below_alloc | apply pw_below_drewN | apply below_drew1 | refine below_set ?_ GE815.out) | exact HB.out)) hb); have n2_ := Aside0.mk (hbox); have n3_ := Aside0.mk ((by rw [hg]; exact (below_size (by repeat (first | (with_reducible first | exact HB.out | apply below_alloc | apply pw_below_drewN | apply below_drew1 | refine below_set ?_ GE815.out) | exact HB.out))) : w.heap.size ≤ gb816)); have n4_ := Aside0.mk ((by rw [hg]; exact (below_size (by repeat (first | (with_reducible first | exact HB.out | apply below_alloc | apply pw_below_drewN | apply below_drew1 | refine below_set ?_ GE815.out) | exact HB.out))) : w.heap.size ≤ gb816)); have n5_ := Aside0.mk ((by rw [hg]; exact Nat.ne_of_lt (blk_lt (g := gb815) (o := .cells #[.int .i64 a0_0, .int .i64 a0_1, .string a0_2, .slice A0_3 l0_3.length c0_3, .slice A0_4 l0_4.length c0_4] 25 (0, 0)) (by (with_reducible repeat (first | refine blk_drewN ?_ _ | refine blk_drew ?_ | refine blk_alloc ?_ _)); exact BK815.out)) : gb815 ≠ gb816)); have n6_ := Aside0.mk ((by rw [hg]; exact Nat.ne_of_gt (blk_lt (g := gb815) (o := .cells #[.int .i64 a0_0, .int .i64 a0_1, .string a0_2, .slice A0_3 l0_3.length c0_3, .slice A0_4 l0_4.length c0_4] 25 (0, 0)) (by (with_reducible repeat (first | refine blk_drewN ?_ _ | refine blk_drew ?_ | refine blk_alloc ?_ _)); exact BK815.out)) : gb816 ≠ gb815)); clear BK815; clear HB; have BK815 := n0_; have HB := n1_; have BK816 := n2_; have GW816 := n3_; have GE816 := n4_; have NB815_816 := n5_; have NB816_815 := n6_; clear n0_ n1_ n2_ n3_ n4_ n5_ n6_; clear hb hbox hg; have hnb8 := NB815_816.out; have hnc8 := NB816_815.out; have hcz9_0 : w7.cell? ⟨gb815, 0, none⟩ = some (.int .i64 a0_0) := (blk_cell BK815.out 0).trans rfl; have hcz9_1 : w7.cell? ⟨gb815, 1, none⟩ = some (.int .i64 a0_1) := (blk_cell BK815.out 1).trans rfl; have hcz9_2 : w7.cell? ⟨gb815, 2, none⟩ = some (.string a0_2) := (blk_cell BK815.out 2).trans rfl; have hcz9_3 : w7.cell? ⟨gb815, 3, none⟩ = some (.slice A0_3 l0_3.length c0_3) := (blk_cell BK815.out 3).trans rfl; have hcz9_4 : w7.cell? ⟨gb815, 4, none⟩ = some (.slice A0_4 l0_4.length c0_4) := (blk_cell BK815.out 4).trans rfl; have hfz9_0 := blk_frozen BK815.out 0; have hfz9_1 := blk_frozen BK815.out 1; have hfz9_2 := blk_frozen BK815.out 2; have hfz9_3 := blk_frozen BK815.out 3; have hfz9_4 := blk_frozen BK815.out 4) | ((with_reducible refine gate_callee (f := 87) rfl ?_); refine goesL_ (some 8) rfl rfl Try.func87 (by kernel_rfl) rfl #[.agg #[.int .i64 a0_0, .int .i64 a0_1, .string a0_2, .slice A0_3 l0_3.length c0_3, .slice A0_4 l0_4.length c0_4]] rfl (by (try simp only [List.map_toArray, List.map_cons, List.map_nil]); first | done | rfl | (simp only [List.length_drop, List.length_take]; rfl)) ?_; (with_reducible refine (spec_l3Copy.calls k a0_0 a0_1 a0_2 _ _ l0_3 _ _ l0_4 t817 t818 t819 t820 t823 _ ?side1 ?side2 ?side3 ?side4 A3.out).mono ?_); (case side1 => repeat (first | exact (Kd.C_below HR0_3.out HB.out) | (with_reducible refine Kd.C_alloc ?_ _) | (with_reducible refine Kd.C_drewN ?_ _) | (with_reducible refine Kd.C_drew ?_))); (case side2 => exact HC0_3.out); (case side3 => repeat (first | exact (Kd.C_below HR0_4.out HB.out) | (with_reducible refine Kd.C_alloc ?_ _) | (with_reducible refine Kd.C_drewN ?_ _) | (with_reducible refine Kd.C_drew ?_))); (case side4 => exact HC0_4.out); rintro e w10 ⟨v821, v824, rfl, ho0, ho1, hb⟩; refine ⟨_, rfl, ?_⟩; have n0_ := Aside0.mk (Kd.R_lower (Kd.R_newM (M := fun k_ => (w.heap.size ≤ k_)) ho0 (below_size (by repeat (first | (with_reducible first | exact HB.out | apply below_alloc | apply pw_below_drewN | apply below_drew1 | refine below_set ?_ GE815.out | refine below_set ?_ GE816.out) | exact HB.out))) (fun k_ h_ => h_)) (below_size (by repeat (first | (with_reducible first | exact HB.out | apply below_alloc | apply pw_below_drewN | apply below_drew1 | refine below_set ?_ GE815.out | refine below_set ?_ GE816.out) | exact HB.out)))); have n1_ := Aside0.mk (Kd.N_lower (Kd.N_mono (ok' := fun k_ => (w.heap.size ≤ k_) ∧ some k_ ≠ (v821 : Value).ownBlock ∧ k_ ≠ gb815 ∧ k_ ≠ gb816) (Kd.R_N (Kd.R_bound ho1)) (fun k_ hk_ => ⟨(Nat.le_trans (below_size (by repeat (first | (with_reducible first | exact HB.out | apply below_alloc | apply pw_below_drewN | apply below_drew1 | refine below_set ?_ GE815.out | refine below_set ?_ GE816.out) | exact HB.out))) hk_.2.1), hk_.1, (Kd.freshB (g := gb815) (o := .cells #[.int .i64 a0_0, .int .i64 a0_1, .string a0_2, .slice A0_3 l0_3.length c0_3, .slice A0_4 l0_4.length c0_4] 25 (0, 0)) (by (with_reducible repeat (first | refine blk_drewN ?_ _ | refine blk_drew ?_ | refine blk_alloc ?_ _)); exact BK815.out) k_ hk_.2.1), (Kd.freshB (g := gb816) (o := .cells #[.int .i64 0, .int .i64 0, .string (⟨#[]⟩ : ByteArray), .slice none 0 0, .slice none 0 0] 25 (0, 0)) (by (with_reducible repeat (first | refine blk_drewN ?_ _ | refine blk_drew ?_ | refine blk_alloc ?_ _)); exact BK816.out) k_ hk_.2.1)⟩)) (below_size (by repeat (first | (with_reducible first | exact HB.out | apply below_alloc | apply pw_below_drewN | apply below_drew1 | refine below_set ?_ GE815.out | refine below_set ?_ GE816.out) | exact HB.out)))); have n2_ := Aside0.mk (blk_below (g := gb815) (o := .cells #[.int .i64 a0_0, .int .i64 a0_1, .string a0_2, .slice A0_3 l0_3.length c0_3, .slice A0_4 l0_4.length c0_4] 25 (0, 0)) (by (with_reducible repeat (first | refine blk_drewN ?_ _ | refine blk_drew ?_ | refine blk_alloc ?_ _)); exact BK815.out) hb); have n3_ := Aside0.mk (blk_below (g := gb816) (o := .cells #[.int .i64 0, .int .i64 0, .string (⟨#[]⟩ : ByteArray), .slice none 0 0, .slice none 0 0] 25 (0, 0)) (by (with_reducible repeat (first | refine blk_drewN ?_ _ | refine blk_drew ?_ | refine blk_alloc ?_ _)); exact BK816.out) hb); have n4_ := Aside0.mk (below_step (by repeat (first | (with_reducible first | exact HB.out | apply below_alloc | apply pw_below_drewN | apply below_drew1 | refine below_set ?_ GE815.out | refine below_set ?_ GE816.out) | exact HB.out)) hb); clear BK815; clear BK816; clear HB; have HO822 := n0_; have HO825 := n1_; have BK815 := n2_; have BK816 := n3_; have HB := n4_; clear n0_ n1_ n2_ n3_ n4_; (try clear hb); (try clear hb2); (try clear hk); (try clear hi); (try clear ho0); (try clear ho1)) | ((with_reducible refine gate_dst (N := 5) rfl ?_); (try (refine gate_guard (by rfl) ?_; dsimp only)); refine box_event ?hg (N := 5) ?hd (cs := #[.int .i64 0, .int .i64 0, .string (⟨#[]⟩ : ByteArray), .slice none 0 0, .slice none 0 0]) (t := 25) ?hr ?_; (case hd => rfl); (case hg => rfl); (case hr => first | (go_simp; done) | (go_simp; rfl)); intro gb826 hg w11 hbox hb; have n0_ := Aside0.mk (Kd.R_below (by (with_reducible repeat (first | apply Kd.R_alloc | apply Kd.R_drewN | apply Kd.R_drew)); exact HO822.out) hb); have n1_ := Aside0.mk (Kd.N_below (Kd.N_elderB (by (with_reducible repeat (first | apply Kd.N_alloc | apply Kd.N_drewN | apply Kd.N_drew)); exact HO825.out) gb826 (Nat.le_of_eq hg.symm)) hb); have n2_ := Aside0.mk (blk_below (g := gb815) (o := .cells #[.int .i64 a0_0, .int .i64 a0_1, .string a0_2, .slice A0_3 l0_3.length c0_3, .slice A0_4 l0_4.length c0_4] 25 (0, 0)) (by (with_reducible repeat (first | refine blk_drewN ?_ _ | refine blk_drew ?_ | refine blk_alloc ?_ _)); exact BK815.out) hb); have n3_ := Aside0.mk (blk_below (g := gb816) (o := .cells #[.int .i64 0, .int .i64 0, .string (⟨#[]⟩ : ByteArray), .slice none 0 0, .slice none 0 0] 25 (0, 0)) (by (with_reducible repeat (first | refine blk_drewN ?_ _ | refine blk_drew ?_ | refine blk_alloc ?_ _)); exact BK816.out) hb); have n4_ := Aside0.mk (below_step (by repeat (first | (with_reducible first | exact HB.out | apply below_alloc | apply pw_below_drewN | apply below_drew1 | refine below_set ?_ GE815.out | refine below_set ?_ GE816.out) | exact HB.out)) hb); have n5_ := Aside0.mk (hbox); have n6_ := Aside0.mk ((by rw [hg]; exact (below_size (by repeat (first | (with_reducible first | exact HB.out | apply below_alloc | apply pw_below_drewN | apply below_drew1 | refine below_set ?_ GE815.out | refine below_set ?_ GE816.out) | exact HB.out))) : w.heap.size ≤ gb826)); have n7_ := Aside0.mk ((by rw [hg]; exact (below_size (by repeat (first | (with_reducible first | exact HB.out | apply below_alloc | apply pw_below_drewN | apply below_drew1 | refine below_set ?_ GE815.out | refine below_set ?_ GE816.out) | exact HB.out))) : w.heap.size ≤ gb826)); have n8_ := Aside0.mk ((by rw [hg]; exact Nat.ne_of_lt (blk_lt (g := gb815) (o := .cells #[.int .i64 a0_0, .int .i64 a0_1, .string a0_2, .slice A0_3 l0_3.length c0_3, .slice A0_4 l0_4.length c0_4] 25 (0, 0)) (by (with_reducible repeat (first | refine blk_drewN ?_ _ | refine blk_drew ?_ | refine blk_alloc ?_ _)); exact BK815.out)) : gb815 ≠ gb826)); have n9_ := Aside0.mk ((by rw [hg]; exact Nat.ne_of_gt (blk_lt (g := gb815) (o := .cells #[.int .i64 a0_0, .int .i64 a0_1, .string a0_2, .slice A0_3 l0_3.length c0_3, .slice A0_4 l0_4.length c0_4] 25 (0, 0)) (by (with_reducible repeat (first | refine blk_drewN ?_ _ | refine blk_drew ?_ | refine blk_alloc ?_ _)); exact BK815.out)) : gb826 ≠ gb815)); have n10_ := Aside0.mk ((by rw [hg]; exact Nat.ne_of_lt (blk_lt (g := gb816) (o := .cells #[.int .i64 0, .int .i64 0, .string (⟨#[]⟩ : ByteArray), .slice none 0 0, .slice none 0 0] 25 (0, 0)) (by (with_reducible repeat (first | refine blk_drewN ?_ _ | refine blk_drew ?_ | refine blk_alloc ?_ _)); exact BK816.out)) : gb816 ≠ gb826)); have n11_ := Aside0.mk ((by rw [hg]; exact Nat.ne_of_gt (blk_lt (g := gb816) (o := .cells #[.int .i64 0, .int .i64 0, .string (⟨#[]⟩ : ByteArray), .slice none 0 0, .slice none 0 0] 25 (0, 0)) (by (with_reducible repeat (first | refine blk_drewN ?_ _ | refine blk_drew ?_ | refine blk_alloc ?_ _)); exact BK816.out)) : gb826 ≠ gb816)); clear HO822; clear HO825; clear BK815; clear BK816; clear HB; have HO822 := n0_; have HO825 := n1_; have BK815 := n2_; have BK816 := n3_; have HB := n4_; have BK826 := n5_; have GW826 := n6_; have GE826 := n7_; have NB815_826 := n8_; have NB826_815 := n9_; have NB816_826 := n10_; have NB826_816 := n11_; clear n0_ n1_ n2_ n3_ n4_ n5_ n6_ n7_ n8_ n9_ n10_ n11_; clear hb hbox hg; have hnb12 := NB826_815.out; have hnc12 := NB815_826.out; have hnb13 := NB826_816.out; have hnc13 := NB816_826.out; have hcz14_0 : w11.cell? ⟨gb826, 0, none⟩ = some (.int .i64 0) := (blk_cell BK826.out 0).trans rfl; have hcz14_1 : w11.cell? ⟨gb826, 1, none⟩ = some (.int .i64 0) := (blk_cell BK826.out 1).trans rfl; have hcz14_2 : w11.cell? ⟨gb826, 2, none⟩ = some (.string (⟨#[]⟩ : ByteArray)) := (blk_cell BK826.out 2).trans rfl; have hcz14_3 : w11.cell? ⟨gb826, 3, none⟩ = some (.slice none 0 0) := (blk_cell BK826.out 3).trans rfl; have hcz14_4 : w11.cell? ⟨gb826, 4, none⟩ = some (.slice none 0 0) := (blk_cell BK826.out 4).trans rfl; have hfz14_0 := blk_frozen BK826.out 0; have hfz14_1 := blk_frozen BK826.out 1; have hfz14_2 := blk_frozen BK826.out 2; have hfz14_3 := blk_frozen BK826.out 3; have hfz14_4 := blk_frozen BK826.out 4; obtain ⟨Ao15, co15, eo15⟩ := Kd.R_slice HO822.out; subst eo15; obtain ⟨Ao16, co16, eo16⟩ := Kd.N_slice HO825.out; subst eo16; have hcz17_0 : w11.cell? ⟨gb815, 0, none⟩ = some (.int .i64 a0_0) := (blk_cell BK815.out 0).trans rfl; have hcz17_1 : w11.cell? ⟨gb815, 1, none⟩ = some (.int .i64 a0_1) := (blk_cell BK815.out 1).trans rfl; have hcz17_2 : w11.cell? ⟨gb815, 2, none⟩ = some (.string a0_2) := (blk_cell BK815.out 2).trans rfl; have hcz17_3 : w11.cell? ⟨gb815, 3, none⟩ = some (.slice A0_3 l0_3.length c0_3) := (blk_cell BK815.out 3).trans rfl; have hcz17_4 : w11.cell? ⟨gb815, 4, none⟩ = some (.slice A0_4 l0_4.length c0_4) := (blk_cell BK815.out 4).trans rfl; have hfz17_0 := blk_frozen BK815.out 0; have hfz17_1 := blk_frozen BK815.out 1; have hfz17_2 := blk_frozen BK815.out 2; have hfz17_3 := blk_frozen BK815.out 3; have hfz17_4 := blk_frozen BK815.out 4) | ((with_reducible refine gate_callee (f := 89) rfl ?_); refine goesL_ (some 11) rfl rfl Try.func89 (by kernel_rfl) rfl #[.agg #[.int .i64 a0_0, .int .i64 a0_1, .string a0_2, .slice A0_3 l0_3.length c0_3, .slice A0_4 l0_4.length c0_4], .string a1] rfl (by (try simp only [List.map_toArray, List.map_cons, List.map_nil]); first | done | rfl | (simp only [List.length_drop, List.length_take]; rfl)) ?_; (with_reducible refine (spec_l3At.calls k a0_0 a0_1 a0_2 _ _ l0_3 _ _ l0_4 a1 t827 _ ?side1 ?side2 ?side3 ?side4 A4.out).mono ?_); (case side1 => exact Kd.C_below HR0_3.out (by repeat (first | (with_reducible first | exact HB.out | apply below_alloc | apply pw_below_drewN | apply below_drew1 | refine below_set ?_ GE815.out | refine below_set ?_ GE816.out | refine below_set ?_ GE826.out) | exact HB.out))); (case side2 => exact HC0_3.out); (case side3 => exact Kd.C_below HR0_4.out (by repeat (first | (with_reducible first | exact HB.out | apply below_alloc | apply pw_below_drewN | apply below_drew1 | refine below_set ?_ GE815.out | refine below_set ?_ GE816.out | refine below_set ?_ GE826.out) | exact HB.out))); (case side4 => exact HC0_4.out); rintro e w18 ⟨rfl, hb⟩; refine ⟨_, rfl, ?_⟩; have n0_ := Aside0.mk (Kd.R_below (by (with_reducible repeat (first | apply Kd.R_alloc | apply Kd.R_drewN | apply Kd.R_drew)); exact (Kd.R_mono (Kd.R_far (p := ⟨gb826, 4, none⟩) (Kd.R_far (p := ⟨gb826, 3, none⟩) (Kd.R_far (p := ⟨gb826, 2, none⟩) (Kd.R_far (p := ⟨gb826, 1, none⟩) (Kd.R_far (p := ⟨gb826, 0, none⟩) (Kd.R_types HO822.out BK826.out (by decide)) (fun _ hk => hk.2) (.int .i64 t817)) (fun _ hk => hk.2) (.int .i64 t818)) (fun _ hk => hk.2) (.string t819)) (fun _ hk => hk.2) (.slice Ao15 t820.length co15)) (fun _ hk => hk.2) (.slice Ao16 t823.length co16)) (fun _ h_ => h_.1))) hb); have n1_ := Aside0.mk (Kd.N_below (by (with_reducible repeat (first | apply Kd.N_alloc | apply Kd.N_drewN | apply Kd.N_drew)); exact (Kd.N_mono (Kd.N_far (p := ⟨gb826, 4, none⟩) (Kd.N_far (p := ⟨gb826, 3, none⟩) (Kd.N_far (p := ⟨gb826, 2, none⟩) (Kd.N_far (p := ⟨gb826, 1, none⟩) (Kd.N_far (p := ⟨gb826, 0, none⟩) (Kd.N_mono HO825.out (fun k_ hk => (⟨hk, hk.2⟩ : _ ∧ k_ ≠ gb826))) (fun _ hk => hk.2) (.int .i64 t817)) (fun _ hk => hk.2) (.int .i64 t818)) (fun _ hk => hk.2) (.string t819)) (fun _ hk => hk.2) (.slice Ao15 t820.length co15)) (fun _ hk => hk.2) (.slice Ao16 t823.length co16)) (fun _ h_ => h_.1))) hb); have n2_ := Aside0.mk (blk_below (g := gb815) (o := .cells #[.int .i64 a0_0, .int .i64 a0_1, .string a0_2, .slice A0_3 l0_3.length c0_3, .slice A0_4 l0_4.length c0_4] 25 (0, 0)) (by (with_reducible repeat (first | refine blk_drewN ?_ _ | refine blk_drew ?_ | refine blk_alloc ?_ _)); refine blk_far ?_ NB815_826.out _; (with_reducible repeat (first | refine blk_drewN ?_ _ | refine blk_drew ?_ | refine blk_alloc ?_ _)); refine blk_far ?_ NB815_826.out _; (with_reducible repeat (first | refine blk_drewN ?_ _ | refine blk_drew ?_ | refine blk_alloc ?_ _)); refine blk_far ?_ NB815_826.out _; (with_reducible repeat (first | refine blk_drewN ?_ _ | refine blk_drew ?_ | refine blk_alloc ?_ _)); refine blk_far ?_ NB815_826.out _; (with_reducible repeat (first | refine blk_drewN ?_ _ | refine blk_drew ?_ | refine blk_alloc ?_ _)); refine blk_far ?_ NB815_826.out _; (with_reducible repeat (first | refine blk_drewN ?_ _ | refine blk_drew ?_ | refine blk_alloc ?_ _)); exact BK815.out) hb); have n3_ := Aside0.mk (blk_below (g := gb816) (o := .cells #[.int .i64 0, .int .i64 0, .string (⟨#[]⟩ : ByteArray), .slice none 0 0, .slice none 0 0] 25 (0, 0)) (by (with_reducible repeat (first | refine blk_drewN ?_ _ | refine blk_drew ?_ | refine blk_alloc ?_ _)); refine blk_far ?_ NB816_826.out _; (with_reducible repeat (first | refine blk_drewN ?_ _ | refine blk_drew ?_ | refine blk_alloc ?_ _)); refine blk_far ?_ NB816_826.out _; (with_reducible repeat (first | refine blk_drewN ?_ _ | refine blk_drew ?_ | refine blk_alloc ?_ _)); refine blk_far ?_ NB816_826.out _; (with_reducible repeat (first | refine blk_drewN ?_ _ | refine blk_drew ?_ | refine blk_alloc ?_ _)); refine blk_far ?_ NB816_826.out _; (with_reducible repeat (first | refine blk_drewN ?_ _ | refine blk_drew ?_ | refine blk_alloc ?_ _)); refine blk_far ?_ NB816_826.out _; (with_reducible repeat (first | refine blk_drewN ?_ _ | refine blk_drew ?_ | refine blk_alloc ?_ _)); exact BK816.out) hb); have n4_ := Aside0.mk (blk_below (g := gb826) (o := .cells #[.int .i64 t817, .int .i64 t818, .string t819, .slice Ao15 t820.length co15, .slice Ao16 t823.length co16] 25 (0, 0)) (by (with_reducible repeat (first | refine blk_drewN ?_ _ | refine blk_drew ?_ | refine blk_alloc ?_ _)); refine blk_put (cs := #[.int .i64 t817, .int .i64 t818, .string t819, .slice Ao15 t820.length co15, .slice none 0 0]) ?_ 4 _ rfl; (with_reducible repeat (first | refine blk_drewN ?_ _ | refine blk_drew ?_ | refine blk_alloc ?_ _)); refine blk_put (cs := #[.int .i64 t817, .int .i64 t818, .string t819, .slice none 0 0, .slice none 0 0]) ?_ 3 _ rfl; (with_reducible repeat (first | refine blk_drewN ?_ _ | refine blk_drew ?_ | refine blk_alloc ?_ _)); refine blk_put (cs := #[.int .i64 t817, .int .i64 t818, .string (⟨#[]⟩ : ByteArray), .slice none 0 0, .slice none 0 0]) ?_ 2 _ rfl; (with_reducible repeat (first | refine blk_drewN ?_ _ | refine blk_drew ?_ | refine blk_alloc ?_ _)); refine blk_put (cs := #[.int .i64 t817, .int .i64 0, .string (⟨#[]⟩ : ByteArray), .slice none 0 0, .slice none 0 0]) ?_ 1 _ rfl; (with_reducible repeat (first | refine blk_drewN ?_ _ | refine blk_drew ?_ | refine blk_alloc ?_ _)); refine blk_put (cs := #[.int .i64 0, .int .i64 0, .string (⟨#[]⟩ : ByteArray), .slice none 0 0, .slice none 0 0]) ?_ 0 _ rfl; (with_reducible repeat (first | refine blk_drewN ?_ _ | refine blk_drew ?_ | refine blk_alloc ?_ _)); exact BK826.out) hb); have n5_ := Aside0.mk (below_step (by repeat (first | (with_reducible first | exact HB.out | apply below_alloc | apply pw_below_drewN | apply below_drew1 | refine below_set ?_ GE815.out | refine below_set ?_ GE816.out | refine below_set ?_ GE826.out) | exact HB.out)) hb); clear HO822; clear HO825; clear BK815; clear BK816; clear BK826; clear HB; have HO822 := n0_; have HO825 := n1_; have BK815 := n2_; have BK816 := n3_; have BK826 := n4_; have HB := n5_; clear n0_ n1_ n2_ n3_ n4_ n5_; (try clear hb); (try clear hb2); (try clear hk); (try clear hi); have hcz19_0 : w18.cell? ⟨gb826, 0, none⟩ = some (.int .i64 t817) := (blk_cell BK826.out 0).trans rfl; have hcz19_1 : w18.cell? ⟨gb826, 1, none⟩ = some (.int .i64 t818) := (blk_cell BK826.out 1).trans rfl; have hcz19_2 : w18.cell? ⟨gb826, 2, none⟩ = some (.string t819) := (blk_cell BK826.out 2).trans rfl; have hcz19_3 : w18.cell? ⟨gb826, 3, none⟩ = some (.slice Ao15 t820.length co15) := (blk_cell BK826.out 3).trans rfl; have hcz19_4 : w18.cell? ⟨gb826, 4, none⟩ = some (.slice Ao16 t823.length co16) := (blk_cell BK826.out 4).trans rfl; have hfz19_0 := blk_frozen BK826.out 0; have hfz19_1 := blk_frozen BK826.out 1; have hfz19_2 := blk_frozen BK826.out 2; have hfz19_3 := blk_frozen BK826.out 3; have hfz19_4 := blk_frozen BK826.out 4; have hcz20_0 : w18.cell? ⟨gb816, 0, none⟩ = some (.int .i64 0) := (blk_cell BK816.out 0).trans rfl; have hcz20_1 : w18.cell? ⟨gb816, 1, none⟩ = some (.int .i64 0) := (blk_cell BK816.out 1).trans rfl; have hcz20_2 : w18.cell? ⟨gb816, 2, none⟩ = some (.string (⟨#[]⟩ : ByteArray)) := (blk_cell BK816.out 2).trans rfl; have hcz20_3 : w18.cell? ⟨gb816, 3, none⟩ = some (.slice none 0 0) := (blk_cell BK816.out 3).trans rfl; have hcz20_4 : w18.cell? ⟨gb816, 4, none⟩ = some (.slice none 0 0) := (blk_cell BK816.out 4).trans rfl; have hfz20_0 := blk_frozen BK816.out 0; have hfz20_1 := blk_frozen BK816.out 1; have hfz20_2 := blk_frozen BK816.out 2; have hfz20_3 := blk_frozen BK816.out 3; have hfz20_4 := blk_frozen BK816.out 4))
    refine bodyPost_ret (results_cell_row rfl _ _ gb816 25 #[.int .i64 t817, .int .i64 t818, .string t819, .slice Ao15 t820.length co15, .slice Ao16 t823.length co16] (0, 0) _ rfl (by (with_reducible repeat (first | refine blk_drewN ?_ _ | refine blk_drew ?_ | refine blk_alloc ?_ _)); refine blk_put (cs := #[.int .i64 t817, .int .i64 t818, .string t819, .slice Ao15 t820.length co15, .slice none 0 0]) ?_ 4 _ rfl; (with_reducible repeat (first | refine blk_drewN ?_ _ | refine blk_drew ?_ | refine blk_alloc ?_ _)); refine blk_put (cs := #[.int .i64 t817, .int .i64 t818, .string t819, .slice none 0 0, .slice none 0 0]) ?_ 3 _ rfl; (with_reducible repeat (first | refine blk_drewN ?_ _ | refine blk_drew ?_ | refine blk_alloc ?_ _)); refine blk_put (cs := #[.int .i64 t817, .int .i64 t818, .string (⟨#[]⟩ : ByteArray), .slice none 0 0, .slice none 0 0]) ?_ 2 _ rfl; (with_reducible repeat (first | refine blk_drewN ?_ _ | refine blk_drew ?_ | refine blk_alloc ?_ _)); refine blk_put (cs := #[.int .i64 t817, .int .i64 0, .string (⟨#[]⟩ : ByteArray), .slice none 0 0, .slice none 0 0]) ?_ 1 _ rfl; (with_reducible repeat (first | refine blk_drewN ?_ _ | refine blk_drew ?_ | refine blk_alloc ?_ _)); refine blk_put (cs := #[.int .i64 0, .int .i64 0, .string (⟨#[]⟩ : ByteArray), .slice none 0 0, .slice none 0 0]) ?_ 0 _ rfl; (with_reducible repeat (first | refine blk_drewN ?_ _ | refine blk_drew ?_ | refine blk_alloc ?_ _)); exact BK816.out) Try.underlying25 rfl (by kernel_rfl)) rfl ?_
    exact ⟨_, _, by first | rfl | (simp [errW_none, errW_some] <;> rfl) | (simp [*, errW_none, errW_some] <;> rfl), by (with_reducible repeat (first | apply Kd.R_alloc | apply Kd.R_drewN | apply Kd.R_drew)); exact Kd.R_mono (Kd.R_far (p := ⟨gb816, 4, none⟩) (Kd.R_far (p := ⟨gb816, 3, none⟩) (Kd.R_far (p := ⟨gb816, 2, none⟩) (Kd.R_far (p := ⟨gb816, 1, none⟩) (Kd.R_far (p := ⟨gb816, 0, none⟩) (Kd.R_types HO822.out BK816.out (by decide)) (fun _ hk => hk.2) (.int .i64 t817)) (fun _ hk => hk.2) (.int .i64 t818)) (fun _ hk => hk.2) (.string t819)) (fun _ hk => hk.2) (.slice Ao15 t820.length co15)) (fun _ hk => hk.2) (.slice Ao16 t823.length co16)) (fun _ hk => hk.1.1), by (with_reducible repeat (first | apply Kd.N_alloc | apply Kd.N_drewN | apply Kd.N_drew)); exact Kd.N_mono (Kd.N_far (p := ⟨gb816, 4, none⟩) (Kd.N_far (p := ⟨gb816, 3, none⟩) (Kd.N_far (p := ⟨gb816, 2, none⟩) (Kd.N_far (p := ⟨gb816, 1, none⟩) (Kd.N_far (p := ⟨gb816, 0, none⟩) (Kd.N_mono HO825.out (fun k_ hk => (⟨hk, hk.1.2.2.2⟩ : _ ∧ k_ ≠ gb816))) (fun _ hk => hk.2) (.int .i64 t817)) (fun _ hk => hk.2) (.int .i64 t818)) (fun _ hk => hk.2) (.string t819)) (fun _ hk => hk.2) (.slice Ao15 t820.length co15)) (fun _ hk => hk.2) (.slice Ao16 t823.length co16)) (fun _ hk => ⟨hk.1.1.1, hk.1.1.2.1⟩), by repeat (first | (with_reducible first | exact HB.out | apply below_alloc | apply pw_below_drewN | apply below_drew1 | refine below_set ?_ GE815.out | refine below_set ?_ GE816.out | refine below_set ?_ GE826.out) | exact HB.out)⟩
  · rw [if_neg c5] at H
    have c5b0 : decide (t827 < 0) = false := decide_eq_false c5
    clear c5
    have HC21 := Aside0.mk H
    clear H
    go_enter Try.func47, Try.ntmps47
    go_upto_if 22 with (first | ((with_reducible refine gate_dst (N := 2) rfl ?_); (try (refine gate_guard (by rfl) ?_; dsimp only)); refine box_event ?hg (N := 2) ?hd (cs := #[.int .i64 a0_0, .int .i64 a0_1, .string a0_2, .slice A0_3 l0_3.length c0_3, .slice A0_4 l0_4.length c0_4]) (t := 25) ?hr ?_; (case hd => rfl); (case hg => rfl); (case hr => first | (go_simp; done) | (go_simp; rfl)); intro gb815 hg w22 hbox hb; have n0_ := Aside0.mk (below_step (by repeat (first | (with_reducible first | exact HB.out | apply below_alloc | apply pw_below_drewN | apply below_drew1) | exact HB.out)) hb); have n1_ := Aside0.mk (hbox); have n2_ := Aside0.mk ((by rw [hg]; exact (below_size (by repeat (first | (with_reducible first | exact HB.out | apply below_alloc | apply pw_below_drewN | apply below_drew1) | exact HB.out))) : w.heap.size ≤ gb815)); have n3_ := Aside0.mk ((by rw [hg]; exact (below_size (by repeat (first | (with_reducible first | exact HB.out | apply below_alloc | apply pw_below_drewN | apply below_drew1) | exact HB.out))) : w.heap.size ≤ gb815)); clear HB; have HB := n0_; have BK815 := n1_; have GW815 := n2_; have GE815 := n3_; clear n0_ n1_ n2_ n3_; clear hb hbox hg) | ((with_reducible refine gate_dst (N := 4) rfl ?_); (try (refine gate_guard (by rfl) ?_; dsimp only)); refine box_event ?hg (N := 4) ?hd (cs := #[.int .i64 0, .int .i64 0, .string (⟨#[]⟩ : ByteArray), .slice none 0 0, .slice none 0 0]) (t := 25) ?hr ?_; (case hd => rfl); (case hg => rfl); (case hr => first | (go_simp; done) | (go_simp; rfl)); intro gb816 hg w23 hbox hb; have n0_ := Aside0.mk (blk_below (g := gb815) (o := .cells #[.int .i64 a0_0, .int .i64 a0_1, .string a0_2, .slice A0_3 l0_3.length c0_3, .slice A0_4 l0_4.length c0_4] 25 (0, 0)) (by (with_reducible repeat (first | refine blk_drewN ?_ _ | refine blk_drew ?_ | refine blk_alloc ?_ _)); exact BK815.out) hb); have n1_ := Aside0.mk (below_step (by repeat (first | (with_reducible first | exact HB.out | apply below_alloc | apply pw_below_drewN | apply below_drew1 | refine below_set ?_ GE815.out) | exact HB.out)) hb); have n2_ := Aside0.mk (hbox); have n3_ := Aside0.mk ((by rw [hg]; exact (below_size (by repeat (first | (with_reducible first | exact HB.out | apply below_alloc | apply pw_below_drewN | apply below_drew1 | refine below_set ?_ GE815.out) | exact HB.out))) : w.heap.size ≤ gb816)); have n4_ := Aside0.mk ((by rw [hg]; exact (below_size (by repeat (first | (with_reducible first | exact HB.out | apply below_alloc | apply pw_below_drewN | apply below_drew1 | refine below_set ?_ GE815.out) | exact HB.out))) : w.heap.size ≤ gb816)); have n5_ := Aside0.mk ((by rw [hg]; exact Nat.ne_of_lt (blk_lt (g := gb815) (o := .cells #[.int .i64 a0_0, .int .i64 a0_1, .string a0_2, .slice A0_3 l0_3.length c0_3, .slice A0_4 l0_4.length c0_4] 25 (0, 0)) (by (with_reducible repeat (first | refine blk_drewN ?_ _ | refine blk_drew ?_ | refine blk_alloc ?_ _)); exact BK815.out)) : gb815 ≠ gb816)); have n6_ := Aside0.mk ((by rw [hg]; exact Nat.ne_of_gt (blk_lt (g := gb815) (o := .cells #[.int .i64 a0_0, .int .i64 a0_1, .string a0_2, .slice A0_3 l0_3.length c0_3, .slice A0_4 l0_4.length c0_4] 25 (0, 0)) (by (with_reducible repeat (first | refine blk_drewN ?_ _ | refine blk_drew ?_ | refine blk_alloc ?_ _)); exact BK815.out)) : gb816 ≠ gb815)); clear BK815; clear HB; have BK815 := n0_; have HB := n1_; have BK816 := n2_; have GW816 := n3_; have GE816 := n4_; have NB815_816 := n5_; have NB816_815 := n6_; clear n0_ n1_ n2_ n3_ n4_ n5_ n6_; clear hb hbox hg; have hnb24 := NB815_816.out; have hnc24 := NB816_815.out; have hcz25_0 : w23.cell? ⟨gb815, 0, none⟩ = some (.int .i64 a0_0) := (blk_cell BK815.out 0).trans rfl; have hcz25_1 : w23.cell? ⟨gb815, 1, none⟩ = some (.int .i64 a0_1) := (blk_cell BK815.out 1).trans rfl; have hcz25_2 : w23.cell? ⟨gb815, 2, none⟩ = some (.string a0_2) := (blk_cell BK815.out 2).trans rfl; have hcz25_3 : w23.cell? ⟨gb815, 3, none⟩ = some (.slice A0_3 l0_3.length c0_3) := (blk_cell BK815.out 3).trans rfl; have hcz25_4 : w23.cell? ⟨gb815, 4, none⟩ = some (.slice A0_4 l0_4.length c0_4) := (blk_cell BK815.out 4).trans rfl; have hfz25_0 := blk_frozen BK815.out 0; have hfz25_1 := blk_frozen BK815.out 1; have hfz25_2 := blk_frozen BK815.out 2; have hfz25_3 := blk_frozen BK815.out 3; have hfz25_4 := blk_frozen BK815.out 4) | ((with_reducible refine gate_callee (f := 87) rfl ?_); refine goesL_ (some 8) rfl rfl Try.func87 (by kernel_rfl) rfl #[.agg #[.int .i64 a0_0, .int .i64 a0_1, .string a0_2, .slice A0_3 l0_3.length c0_3, .slice A0_4 l0_4.length c0_4]] rfl (by (try simp only [List.map_toArray, List.map_cons, List.map_nil]); first | done | rfl | (simp only [List.length_drop, List.length_take]; rfl)) ?_; (with_reducible refine (spec_l3Copy.calls k a0_0 a0_1 a0_2 _ _ l0_3 _ _ l0_4 t817 t818 t819 t820 t823 _ ?side1 ?side2 ?side3 ?side4 A3.out).mono ?_); (case side1 => repeat (first | exact (Kd.C_below HR0_3.out HB.out) | (with_reducible refine Kd.C_alloc ?_ _) | (with_reducible refine Kd.C_drewN ?_ _) | (with_reducible refine Kd.C_drew ?_))); (case side2 => exact HC0_3.out); (case side3 => repeat (first | exact (Kd.C_below HR0_4.out HB.out) | (with_reducible refine Kd.C_alloc ?_ _) | (with_reducible refine Kd.C_drewN ?_ _) | (with_reducible refine Kd.C_drew ?_))); (case side4 => exact HC0_4.out); rintro e w26 ⟨v821, v824, rfl, ho0, ho1, hb⟩; refine ⟨_, rfl, ?_⟩; have n0_ := Aside0.mk (Kd.R_lower (Kd.R_newM (M := fun k_ => (w.heap.size ≤ k_)) ho0 (below_size (by repeat (first | (with_reducible first | exact HB.out | apply below_alloc | apply pw_below_drewN | apply below_drew1 | refine below_set ?_ GE815.out | refine below_set ?_ GE816.out) | exact HB.out))) (fun k_ h_ => h_)) (below_size (by repeat (first | (with_reducible first | exact HB.out | apply below_alloc | apply pw_below_drewN | apply below_drew1 | refine below_set ?_ GE815.out | refine below_set ?_ GE816.out) | exact HB.out)))); have n1_ := Aside0.mk (Kd.N_lower (Kd.N_mono (ok' := fun k_ => (w.heap.size ≤ k_) ∧ some k_ ≠ (v821 : Value).ownBlock ∧ k_ ≠ gb815 ∧ k_ ≠ gb816) (Kd.R_N (Kd.R_bound ho1)) (fun k_ hk_ => ⟨(Nat.le_trans (below_size (by repeat (first | (with_reducible first | exact HB.out | apply below_alloc | apply pw_below_drewN | apply below_drew1 | refine below_set ?_ GE815.out | refine below_set ?_ GE816.out) | exact HB.out))) hk_.2.1), hk_.1, (Kd.freshB (g := gb815) (o := .cells #[.int .i64 a0_0, .int .i64 a0_1, .string a0_2, .slice A0_3 l0_3.length c0_3, .slice A0_4 l0_4.length c0_4] 25 (0, 0)) (by (with_reducible repeat (first | refine blk_drewN ?_ _ | refine blk_drew ?_ | refine blk_alloc ?_ _)); exact BK815.out) k_ hk_.2.1), (Kd.freshB (g := gb816) (o := .cells #[.int .i64 0, .int .i64 0, .string (⟨#[]⟩ : ByteArray), .slice none 0 0, .slice none 0 0] 25 (0, 0)) (by (with_reducible repeat (first | refine blk_drewN ?_ _ | refine blk_drew ?_ | refine blk_alloc ?_ _)); exact BK816.out) k_ hk_.2.1)⟩)) (below_size (by repeat (first | (with_reducible first | exact HB.out | apply below_alloc | apply pw_below_drewN | apply below_drew1 | refine below_set ?_ GE815.out | refine below_set ?_ GE816.out) | exact HB.out)))); have n2_ := Aside0.mk (blk_below (g := gb815) (o := .cells #[.int .i64 a0_0, .int .i64 a0_1, .string a0_2, .slice A0_3 l0_3.length c0_3, .slice A0_4 l0_4.length c0_4] 25 (0, 0)) (by (with_reducible repeat (first | refine blk_drewN ?_ _ | refine blk_drew ?_ | refine blk_alloc ?_ _)); exact BK815.out) hb); have n3_ := Aside0.mk (blk_below (g := gb816) (o := .cells #[.int .i64 0, .int .i64 0, .string (⟨#[]⟩ : ByteArray), .slice none 0 0, .slice none 0 0] 25 (0, 0)) (by (with_reducible repeat (first | refine blk_drewN ?_ _ | refine blk_drew ?_ | refine blk_alloc ?_ _)); exact BK816.out) hb); have n4_ := Aside0.mk (below_step (by repeat (first | (with_reducible first | exact HB.out | apply below_alloc | apply pw_below_drewN | apply below_drew1 | refine below_set ?_ GE815.out | refine below_set ?_ GE816.out) | exact HB.out)) hb); clear BK815; clear BK816; clear HB; have HO822 := n0_; have HO825 := n1_; have BK815 := n2_; have BK816 := n3_; have HB := n4_; clear n0_ n1_ n2_ n3_ n4_; (try clear hb); (try clear hb2); (try clear hk); (try clear hi); (try clear ho0); (try clear ho1)) | ((with_reducible refine gate_dst (N := 5) rfl ?_); (try (refine gate_guard (by rfl) ?_; dsimp only)); refine box_event ?hg (N := 5) ?hd (cs := #[.int .i64 0, .int .i64 0, .string (⟨#[]⟩ : ByteArray), .slice none 0 0, .slice none 0 0]) (t := 25) ?hr ?_; (case hd => rfl); (case hg => rfl); (case hr => first | (go_simp; done) | (go_simp; rfl)); intro gb826 hg w27 hbox hb; have n0_ := Aside0.mk (Kd.R_below (by (with_reducible repeat (first | apply Kd.R_alloc | apply Kd.R_drewN | apply Kd.R_drew)); exact HO822.out) hb); have n1_ := Aside0.mk (Kd.N_below (Kd.N_elderB (by (with_reducible repeat (first | apply Kd.N_alloc | apply Kd.N_drewN | apply Kd.N_drew)); exact HO825.out) gb826 (Nat.le_of_eq hg.symm)) hb); have n2_ := Aside0.mk (blk_below (g := gb815) (o := .cells #[.int .i64 a0_0, .int .i64 a0_1, .string a0_2, .slice A0_3 l0_3.length c0_3, .slice A0_4 l0_4.length c0_4] 25 (0, 0)) (by (with_reducible repeat (first | refine blk_drewN ?_ _ | refine blk_drew ?_ | refine blk_alloc ?_ _)); exact BK815.out) hb); have n3_ := Aside0.mk (blk_below (g := gb816) (o := .cells #[.int .i64 0, .int .i64 0, .string (⟨#[]⟩ : ByteArray), .slice none 0 0, .slice none 0 0] 25 (0, 0)) (by (with_reducible repeat (first | refine blk_drewN ?_ _ | refine blk_drew ?_ | refine blk_alloc ?_ _)); exact BK816.out) hb); have n4_ := Aside0.mk (below_step (by repeat (first | (with_reducible first | exact HB.out | apply below_alloc | apply pw_below_drewN | apply below_drew1 | refine below_set ?_ GE815.out | refine below_set ?_ GE816.out) | exact HB.out)) hb); have n5_ := Aside0.mk (hbox); have n6_ := Aside0.mk ((by rw [hg]; exact (below_size (by repeat (first | (with_reducible first | exact HB.out | apply below_alloc | apply pw_below_drewN | apply below_drew1 | refine below_set ?_ GE815.out | refine below_set ?_ GE816.out) | exact HB.out))) : w.heap.size ≤ gb826)); have n7_ := Aside0.mk ((by rw [hg]; exact (below_size (by repeat (first | (with_reducible first | exact HB.out | apply below_alloc | apply pw_below_drewN | apply below_drew1 | refine below_set ?_ GE815.out | refine below_set ?_ GE816.out) | exact HB.out))) : w.heap.size ≤ gb826)); have n8_ := Aside0.mk ((by rw [hg]; exact Nat.ne_of_lt (blk_lt (g := gb815) (o := .cells #[.int .i64 a0_0, .int .i64 a0_1, .string a0_2, .slice A0_3 l0_3.length c0_3, .slice A0_4 l0_4.length c0_4] 25 (0, 0)) (by (with_reducible repeat (first | refine blk_drewN ?_ _ | refine blk_drew ?_ | refine blk_alloc ?_ _)); exact BK815.out)) : gb815 ≠ gb826)); have n9_ := Aside0.mk ((by rw [hg]; exact Nat.ne_of_gt (blk_lt (g := gb815) (o := .cells #[.int .i64 a0_0, .int .i64 a0_1, .string a0_2, .slice A0_3 l0_3.length c0_3, .slice A0_4 l0_4.length c0_4] 25 (0, 0)) (by (with_reducible repeat (first | refine blk_drewN ?_ _ | refine blk_drew ?_ | refine blk_alloc ?_ _)); exact BK815.out)) : gb826 ≠ gb815)); have n10_ := Aside0.mk ((by rw [hg]; exact Nat.ne_of_lt (blk_lt (g := gb816) (o := .cells #[.int .i64 0, .int .i64 0, .string (⟨#[]⟩ : ByteArray), .slice none 0 0, .slice none 0 0] 25 (0, 0)) (by (with_reducible repeat (first | refine blk_drewN ?_ _ | refine blk_drew ?_ | refine blk_alloc ?_ _)); exact BK816.out)) : gb816 ≠ gb826)); have n11_ := Aside0.mk ((by rw [hg]; exact Nat.ne_of_gt (blk_lt (g := gb816) (o := .cells #[.int .i64 0, .int .i64 0, .string (⟨#[]⟩ : ByteArray), .slice none 0 0, .slice none 0 0] 25 (0, 0)) (by (with_reducible repeat (first | refine blk_drewN ?_ _ | refine blk_drew ?_ | refine blk_alloc ?_ _)); exact BK816.out)) : gb826 ≠ gb816)); clear HO822; clear HO825; clear BK815; clear BK816; clear HB; have HO822 := n0_; have HO825 := n1_; have BK815 := n2_; have BK816 := n3_; have HB := n4_; have BK826 := n5_; have GW826 := n6_; have GE826 := n7_; have NB815_826 := n8_; have NB826_815 := n9_; have NB816_826 := n10_; have NB826_816 := n11_; clear n0_ n1_ n2_ n3_ n4_ n5_ n6_ n7_ n8_ n9_ n10_ n11_; clear hb hbox hg; have hnb28 := NB826_815.out; have hnc28 := NB815_826.out; have hnb29 := NB826_816.out; have hnc29 := NB816_826.out; have hcz30_0 : w27.cell? ⟨gb826, 0, none⟩ = some (.int .i64 0) := (blk_cell BK826.out 0).trans rfl; have hcz30_1 : w27.cell? ⟨gb826, 1, none⟩ = some (.int .i64 0) := (blk_cell BK826.out 1).trans rfl; have hcz30_2 : w27.cell? ⟨gb826, 2, none⟩ = some (.string (⟨#[]⟩ : ByteArray)) := (blk_cell BK826.out 2).trans rfl; have hcz30_3 : w27.cell? ⟨gb826, 3, none⟩ = some (.slice none 0 0) := (blk_cell BK826.out 3).trans rfl; have hcz30_4 : w27.cell? ⟨gb826, 4, none⟩ = some (.slice none 0 0) := (blk_cell BK826.out 4).trans rfl; have hfz30_0 := blk_frozen BK826.out 0; have hfz30_1 := blk_frozen BK826.out 1; have hfz30_2 := blk_frozen BK826.out 2; have hfz30_3 := blk_frozen BK826.out 3; have hfz30_4 := blk_frozen BK826.out 4; obtain ⟨Ao31, co31, eo31⟩ := Kd.R_slice HO822.out; subst eo31; obtain ⟨Ao32, co32, eo32⟩ := Kd.N_slice HO825.out; subst eo32; have hcz33_0 : w27.cell? ⟨gb815, 0, none⟩ = some (.int .i64 a0_0) := (blk_cell BK815.out 0).trans rfl; have hcz33_1 : w27.cell? ⟨gb815, 1, none⟩ = some (.int .i64 a0_1) := (blk_cell BK815.out 1).trans rfl; have hcz33_2 : w27.cell? ⟨gb815, 2, none⟩ = some (.string a0_2) := (blk_cell BK815.out 2).trans rfl; have hcz33_3 : w27.cell? ⟨gb815, 3, none⟩ = some (.slice A0_3 l0_3.length c0_3) := (blk_cell BK815.out 3).trans rfl; have hcz33_4 : w27.cell? ⟨gb815, 4, none⟩ = some (.slice A0_4 l0_4.length c0_4) := (blk_cell BK815.out 4).trans rfl; have hfz33_0 := blk_frozen BK815.out 0; have hfz33_1 := blk_frozen BK815.out 1; have hfz33_2 := blk_frozen BK815.out 2; have hfz33_3 := blk_frozen BK815.out 3; have hfz33_4 := blk_frozen BK815.out 4) | ((with_reducible refine gate_callee (f := 89) rfl ?_); refine goesL_ (some 11) rfl rfl Try.func89 (by kernel_rfl) rfl #[.agg #[.int .i64 a0_0, .int .i64 a0_1, .string a0_2, .slice A0_3 l0_3.length c0_3, .slice A0_4 l0_4.length c0_4], .string a1] rfl (by (try simp only [List.map_toArray, List.map_cons, List.map_nil]); first | done | rfl | (simp only [List.length_drop, List.length_take]; rfl)) ?_; (with_reducible refine (spec_l3At.calls k a0_0 a0_1 a0_2 _ _ l0_3 _ _ l0_4 a1 t827 _ ?side1 ?side2 ?side3 ?side4 A4.out).mono ?_); (case side1 => exact Kd.C_below HR0_3.out (by repeat (first | (with_reducible first | exact HB.out | apply below_alloc | apply pw_below_drewN | apply below_drew1 | refine below_set ?_ GE815.out | refine below_set ?_ GE816.out | refine below_set ?_ GE826.out) | exact HB.out))); (case side2 => exact HC0_3.out); (case side3 => exact Kd.C_below HR0_4.out (by repeat (first | (with_reducible first | exact HB.out | apply below_alloc | apply pw_below_drewN | apply below_drew1 | refine below_set ?_ GE815.out | refine below_set ?_ GE816.out | refine below_set ?_ GE826.out) | exact HB.out))); (case side4 => exact HC0_4.out); rintro e w34 ⟨rfl, hb⟩; refine ⟨_, rfl, ?_⟩; have n0_ := Aside0.mk (Kd.R_below (by (with_reducible repeat (first | apply Kd.R_alloc | apply Kd.R_drewN | apply Kd.R_drew)); exact (Kd.R_mono (Kd.R_far (p := ⟨gb826, 4, none⟩) (Kd.R_far (p := ⟨gb826, 3, none⟩) (Kd.R_far (p := ⟨gb826, 2, none⟩) (Kd.R_far (p := ⟨gb826, 1, none⟩) (Kd.R_far (p := ⟨gb826, 0, none⟩) (Kd.R_types HO822.out BK826.out (by decide)) (fun _ hk => hk.2) (.int .i64 t817)) (fun _ hk => hk.2) (.int .i64 t818)) (fun _ hk => hk.2) (.string t819)) (fun _ hk => hk.2) (.slice Ao31 t820.length co31)) (fun _ hk => hk.2) (.slice Ao32 t823.length co32)) (fun _ h_ => h_.1))) hb); have n1_ := Aside0.mk (Kd.N_below (by (with_reducible repeat (first | apply Kd.N_alloc | apply Kd.N_drewN | apply Kd.N_drew)); exact (Kd.N_mono (Kd.N_far (p := ⟨gb826, 4, none⟩) (Kd.N_far (p := ⟨gb826, 3, none⟩) (Kd.N_far (p := ⟨gb826, 2, none⟩) (Kd.N_far (p := ⟨gb826, 1, none⟩) (Kd.N_far (p := ⟨gb826, 0, none⟩) (Kd.N_mono HO825.out (fun k_ hk => (⟨hk, hk.2⟩ : _ ∧ k_ ≠ gb826))) (fun _ hk => hk.2) (.int .i64 t817)) (fun _ hk => hk.2) (.int .i64 t818)) (fun _ hk => hk.2) (.string t819)) (fun _ hk => hk.2) (.slice Ao31 t820.length co31)) (fun _ hk => hk.2) (.slice Ao32 t823.length co32)) (fun _ h_ => h_.1))) hb); have n2_ := Aside0.mk (blk_below (g := gb815) (o := .cells #[.int .i64 a0_0, .int .i64 a0_1, .string a0_2, .slice A0_3 l0_3.length c0_3, .slice A0_4 l0_4.length c0_4] 25 (0, 0)) (by (with_reducible repeat (first | refine blk_drewN ?_ _ | refine blk_drew ?_ | refine blk_alloc ?_ _)); refine blk_far ?_ NB815_826.out _; (with_reducible repeat (first | refine blk_drewN ?_ _ | refine blk_drew ?_ | refine blk_alloc ?_ _)); refine blk_far ?_ NB815_826.out _; (with_reducible repeat (first | refine blk_drewN ?_ _ | refine blk_drew ?_ | refine blk_alloc ?_ _)); refine blk_far ?_ NB815_826.out _; (with_reducible repeat (first | refine blk_drewN ?_ _ | refine blk_drew ?_ | refine blk_alloc ?_ _)); refine blk_far ?_ NB815_826.out _; (with_reducible repeat (first | refine blk_drewN ?_ _ | refine blk_drew ?_ | refine blk_alloc ?_ _)); refine blk_far ?_ NB815_826.out _; (with_reducible repeat (first | refine blk_drewN ?_ _ | refine blk_drew ?_ | refine blk_alloc ?_ _)); exact BK815.out) hb); have n3_ := Aside0.mk (blk_below (g := gb816) (o := .cells #[.int .i64 0, .int .i64 0, .string (⟨#[]⟩ : ByteArray), .slice none 0 0, .slice none 0 0] 25 (0, 0)) (by (with_reducible repeat (first | refine blk_drewN ?_ _ | refine blk_drew ?_ | refine blk_alloc ?_ _)); refine blk_far ?_ NB816_826.out _; (with_reducible repeat (first | refine blk_drewN ?_ _ | refine blk_drew ?_ | refine blk_alloc ?_ _)); refine blk_far ?_ NB816_826.out _; (with_reducible repeat (first | refine blk_drewN ?_ _ | refine blk_drew ?_ | refine blk_alloc ?_ _)); refine blk_far ?_ NB816_826.out _; (with_reducible repeat (first | refine blk_drewN ?_ _ | refine blk_drew ?_ | refine blk_alloc ?_ _)); refine blk_far ?_ NB816_826.out _; (with_reducible repeat (first | refine blk_drewN ?_ _ | refine blk_drew ?_ | refine blk_alloc ?_ _)); refine blk_far ?_ NB816_826.out _; (with_reducible repeat (first | refine blk_drewN ?_ _ | refine blk_drew ?_ | refine blk_alloc ?_ _)); exact BK816.out) hb); have n4_ := Aside0.mk (blk_below (g := gb826) (o := .cells #[.int .i64 t817, .int .i64 t818, .string t819, .slice Ao31 t820.length co31, .slice Ao32 t823.length co32] 25 (0, 0)) (by (with_reducible repeat (first | refine blk_drewN ?_ _ | refine blk_drew ?_ | refine blk_alloc ?_ _)); refine blk_put (cs := #[.int .i64 t817, .int .i64 t818, .string t819, .slice Ao31 t820.length co31, .slice none 0 0]) ?_ 4 _ rfl; (with_reducible repeat (first | refine blk_drewN ?_ _ | refine blk_drew ?_ | refine blk_alloc ?_ _)); refine blk_put (cs := #[.int .i64 t817, .int .i64 t818, .string t819, .slice none 0 0, .slice none 0 0]) ?_ 3 _ rfl; (with_reducible repeat (first | refine blk_drewN ?_ _ | refine blk_drew ?_ | refine blk_alloc ?_ _)); refine blk_put (cs := #[.int .i64 t817, .int .i64 t818, .string (⟨#[]⟩ : ByteArray), .slice none 0 0, .slice none 0 0]) ?_ 2 _ rfl; (with_reducible repeat (first | refine blk_drewN ?_ _ | refine blk_drew ?_ | refine blk_alloc ?_ _)); refine blk_put (cs := #[.int .i64 t817, .int .i64 0, .string (⟨#[]⟩ : ByteArray), .slice none 0 0, .slice none 0 0]) ?_ 1 _ rfl; (with_reducible repeat (first | refine blk_drewN ?_ _ | refine blk_drew ?_ | refine blk_alloc ?_ _)); refine blk_put (cs := #[.int .i64 0, .int .i64 0, .string (⟨#[]⟩ : ByteArray), .slice none 0 0, .slice none 0 0]) ?_ 0 _ rfl; (with_reducible repeat (first | refine blk_drewN ?_ _ | refine blk_drew ?_ | refine blk_alloc ?_ _)); exact BK826.out) hb); have n5_ := Aside0.mk (below_step (by repeat (first | (with_reducible first | exact HB.out | apply below_alloc | apply pw_below_drewN | apply below_drew1 | refine below_set ?_ GE815.out | refine below_set ?_ GE816.out | refine below_set ?_ GE826.out) | exact HB.out)) hb); clear HO822; clear HO825; clear BK815; clear BK816; clear BK826; clear HB; have HO822 := n0_; have HO825 := n1_; have BK815 := n2_; have BK816 := n3_; have BK826 := n4_; have HB := n5_; clear n0_ n1_ n2_ n3_ n4_ n5_; (try clear hb); (try clear hb2); (try clear hk); (try clear hi); have hcz35_0 : w34.cell? ⟨gb815, 0, none⟩ = some (.int .i64 a0_0) := (blk_cell BK815.out 0).trans rfl; have hcz35_1 : w34.cell? ⟨gb815, 1, none⟩ = some (.int .i64 a0_1) := (blk_cell BK815.out 1).trans rfl; have hcz35_2 : w34.cell? ⟨gb815, 2, none⟩ = some (.string a0_2) := (blk_cell BK815.out 2).trans rfl; have hcz35_3 : w34.cell? ⟨gb815, 3, none⟩ = some (.slice A0_3 l0_3.length c0_3) := (blk_cell BK815.out 3).trans rfl; have hcz35_4 : w34.cell? ⟨gb815, 4, none⟩ = some (.slice A0_4 l0_4.length c0_4) := (blk_cell BK815.out 4).trans rfl; have hfz35_0 := blk_frozen BK815.out 0; have hfz35_1 := blk_frozen BK815.out 1; have hfz35_2 := blk_frozen BK815.out 2; have hfz35_3 := blk_frozen BK815.out 3; have hfz35_4 := blk_frozen BK815.out 4))
    (try simp only [Act.put, List.setIfInBounds_toArray, List.set_cons_zero, List.set_cons_succ])
    have H := HC21.out
    clear HC21
    by_cases c36 : (l0_3.length : Int) = (l0_4.length : Int)
    · rw [if_pos c36] at H
      have c36b0 : ((l0_3.length : Int) == (l0_4.length : Int)) = true := beq_iff_eq.mpr c36
      have c36b1 : ((l0_3.length : Int) != (l0_4.length : Int)) = false := bne_eq_false_iff_eq.mpr c36
      have c36b2 : (l0_3.length == l0_4.length) = true := by first | simpa using c36 | (simp at c36 ⊢; omega)
      clear c36
      (first | rw [c36b0] | rw [c36b1] | rw [c36b2] | (simp only [i64_w, i32_w]; rw [c36b0]) | skip)
      obtain ⟨y828, hy828⟩ : ∃ y_ : List ByteArray, y_ = (([] : List ByteArray)) := ⟨_, rfl⟩
      replace H : (if 0 ≤ t827 then (if t827 ≤ (t820.length : Int) then ((some (t820.take (t827 : Int).toNat : List ByteArray)).bind fun y831 => (if y828.length + y831.length < 8796093022208 then ((some (y828 ++ y831 : List ByteArray)).bind fun y836 => (if 0 ≤ (wrap64 (t827 + 1)) then (if (wrap64 (t827 + 1)) ≤ (t820.length : Int) then ((some (t820.drop ((wrap64 (t827 + 1)) : Int).toNat : List ByteArray)).bind fun y839 => (if y836.length + y839.length < 8796093022208 then ((some (([] : List (S25)) : List (S25))).bind fun y847 => (if t827 ≤ (t823.length : Int) then ((some (t823.take (t827 : Int).toNat : List (S25))).bind fun y850 => (if y847.length + y850.length < 1759218604441 then ((some (y847 ++ y850 : List (S25))).bind fun y855 => (if (wrap64 (t827 + 1)) ≤ (t823.length : Int) then ((some (t823.drop ((wrap64 (t827 + 1)) : Int).toNat : List (S25))).bind fun y858 => (if y855.length + y858.length < 1759218604441 then (some (t817, t818, t819, (y836 ++ y839), (y855 ++ y858))) else (none))) else (none))) else (none))) else (none))) else (none))) else (none)) else (none))) else (none))) else (none)) else (none)) = some (r1, r2, r3, r4, r5) := by first | (rw [hy828]; with_reducible exact H) | (have H2_ := (Option.bind_some _ _).symm.trans H; rw [hy828]; with_reducible exact H2_) | (have H2_ := (Option.bind_some _ _).symm.trans H; with_reducible exact H2_) | with_reducible exact H | (rw [hy828]; exact H) | exact H
      have Ny828 := Aside0.mk hy828
      clear hy828
      by_cases c37 : 0 ≤ t827
      · rw [if_pos c37] at H
        have c37b0 := eq_true c37
        have c37b1 : decide (0 ≤ t827) = true := decide_eq_true c37
        clear c37
        by_cases c38 : t827 ≤ (t820.length : Int)
        · rw [if_pos c38] at H
          have c38b0 := eq_true c38
          have c38b1 : decide (t827 ≤ (t820.length : Int)) = true := decide_eq_true c38
          clear c38
          obtain ⟨y831, hy831⟩ : ∃ y_ : List ByteArray, y_ = (t820.take (t827 : Int).toNat) := ⟨_, rfl⟩
          replace H : (if y828.length + y831.length < 8796093022208 then ((some (y828 ++ y831 : List ByteArray)).bind fun y836 => (if 0 ≤ (wrap64 (t827 + 1)) then (if (wrap64 (t827 + 1)) ≤ (t820.length : Int) then ((some (t820.drop ((wrap64 (t827 + 1)) : Int).toNat : List ByteArray)).bind fun y839 => (if y836.length + y839.length < 8796093022208 then ((some (([] : List (S25)) : List (S25))).bind fun y847 => (if t827 ≤ (t823.length : Int) then ((some (t823.take (t827 : Int).toNat : List (S25))).bind fun y850 => (if y847.length + y850.length < 1759218604441 then ((some (y847 ++ y850 : List (S25))).bind fun y855 => (if (wrap64 (t827 + 1)) ≤ (t823.length : Int) then ((some (t823.drop ((wrap64 (t827 + 1)) : Int).toNat : List (S25))).bind fun y858 => (if y855.length + y858.length < 1759218604441 then (some (t817, t818, t819, (y836 ++ y839), (y855 ++ y858))) else (none))) else (none))) else (none))) else (none))) else (none))) else (none)) else (none))) else (none)) = some (r1, r2, r3, r4, r5) := by first | (rw [hy831]; with_reducible exact H) | (have H2_ := (Option.bind_some _ _).symm.trans H; rw [hy831]; with_reducible exact H2_) | (have H2_ := (Option.bind_some _ _).symm.trans H; with_reducible exact H2_) | with_reducible exact H | (rw [hy831]; exact H) | exact H
          have Ny831 := Aside0.mk hy831
          clear hy831
          by_cases c39 : y828.length + y831.length < 8796093022208
          · rw [if_pos c39] at H
            have LMc39 := Aside0.mk c39
            clear c39
            obtain ⟨y836, hy836⟩ : ∃ y_ : List ByteArray, y_ = (y828 ++ y831) := ⟨_, rfl⟩
            replace H : (if 0 ≤ (wrap64 (t827 + 1)) then (if (wrap64 (t827 + 1)) ≤ (t820.length : Int) then ((some (t820.drop ((wrap64 (t827 + 1)) : Int).toNat : List ByteArray)).bind fun y839 => (if y836.length + y839.length < 8796093022208 then ((some (([] : List (S25)) : List (S25))).bind fun y847 => (if t827 ≤ (t823.length : Int) then ((some (t823.take (t827 : Int).toNat : List (S25))).bind fun y850 => (if y847.length + y850.length < 1759218604441 then ((some (y847 ++ y850 : List (S25))).bind fun y855 => (if (wrap64 (t827 + 1)) ≤ (t823.length : Int) then ((some (t823.drop ((wrap64 (t827 + 1)) : Int).toNat : List (S25))).bind fun y858 => (if y855.length + y858.length < 1759218604441 then (some (t817, t818, t819, (y836 ++ y839), (y855 ++ y858))) else (none))) else (none))) else (none))) else (none))) else (none))) else (none)) else (none)) = some (r1, r2, r3, r4, r5) := by first | (rw [hy836]; with_reducible exact H) | (have H2_ := (Option.bind_some _ _).symm.trans H; rw [hy836]; with_reducible exact H2_) | (have H2_ := (Option.bind_some _ _).symm.trans H; with_reducible exact H2_) | with_reducible exact H | (rw [hy836]; exact H) | exact H
            have Ny836 := Aside0.mk hy836
            clear hy836
            obtain ⟨ji40, hji40⟩ : ∃ j_ : Int, (wrap64 (t827 + 1)) = j_ := ⟨_, rfl⟩
            replace H : (if 0 ≤ (ji40) then (if (ji40) ≤ (t820.length : Int) then ((some (t820.drop ((ji40) : Int).toNat : List ByteArray)).bind fun y839 => (if y836.length + y839.length < 8796093022208 then ((some (([] : List (S25)) : List (S25))).bind fun y847 => (if t827 ≤ (t823.length : Int) then ((some (t823.take (t827 : Int).toNat : List (S25))).bind fun y850 => (if y847.length + y850.length < 1759218604441 then ((some (y847 ++ y850 : List (S25))).bind fun y855 => (if (ji40) ≤ (t823.length : Int) then ((some (t823.drop ((ji40) : Int).toNat : List (S25))).bind fun y858 => (if y855.length + y858.length < 1759218604441 then (some (t817, t818, t819, (y836 ++ y839), (y855 ++ y858))) else (none))) else (none))) else (none))) else (none))) else (none))) else (none)) else (none)) = some (r1, r2, r3, r4, r5) := by first | (rw [hji40] at H; exact H) | (simp only [hji40] at H ⊢; exact H)
            have hji40w : (IntKind.i64.wrap (t827 + 1)) = ji40 := (i64_w _).trans hji40
            by_cases c41 : 0 ≤ (ji40)
            · rw [if_pos c41] at H
              have c41b0 := eq_true c41
              have c41b1 : decide (0 ≤ (ji40)) = true := decide_eq_true c41
              clear c41
              by_cases c42 : (ji40) ≤ (t820.length : Int)
              · rw [if_pos c42] at H
                have c42b0 := eq_true c42
                have c42b1 : decide ((ji40) ≤ (t820.length : Int)) = true := decide_eq_true c42
                clear c42
                obtain ⟨y839, hy839⟩ : ∃ y_ : List ByteArray, y_ = (t820.drop ((ji40) : Int).toNat) := ⟨_, rfl⟩
                replace H : (if y836.length + y839.length < 8796093022208 then ((some (([] : List (S25)) : List (S25))).bind fun y847 => (if t827 ≤ (t823.length : Int) then ((some (t823.take (t827 : Int).toNat : List (S25))).bind fun y850 => (if y847.length + y850.length < 1759218604441 then ((some (y847 ++ y850 : List (S25))).bind fun y855 => (if (ji40) ≤ (t823.length : Int) then ((some (t823.drop ((ji40) : Int).toNat : List (S25))).bind fun y858 => (if y855.length + y858.length < 1759218604441 then (some (t817, t818, t819, (y836 ++ y839), (y855 ++ y858))) else (none))) else (none))) else (none))) else (none))) else (none)) = some (r1, r2, r3, r4, r5) := by first | (rw [hy839]; with_reducible exact H) | (have H2_ := (Option.bind_some _ _).symm.trans H; rw [hy839]; with_reducible exact H2_) | (have H2_ := (Option.bind_some _ _).symm.trans H; with_reducible exact H2_) | with_reducible exact H | (rw [hy839]; exact H) | exact H
                have Ny839 := Aside0.mk hy839
                clear hy839
                by_cases c43 : y836.length + y839.length < 8796093022208
                · rw [if_pos c43] at H
                  have LMc43 := Aside0.mk c43
                  clear c43
                  obtain ⟨y844, hy844⟩ : ∃ y_ : List ByteArray, y_ = (y836 ++ y839) := ⟨_, rfl⟩
                  replace H : ((some (([] : List (S25)) : List (S25))).bind fun y847 => (if t827 ≤ (t823.length : Int) then ((some (t823.take (t827 : Int).toNat : List (S25))).bind fun y850 => (if y847.length + y850.length < 1759218604441 then ((some (y847 ++ y850 : List (S25))).bind fun y855 => (if (ji40) ≤ (t823.length : Int) then ((some (t823.drop ((ji40) : Int).toNat : List (S25))).bind fun y858 => (if y855.length + y858.length < 1759218604441 then (some (t817, t818, t819, y844, (y855 ++ y858))) else (none))) else (none))) else (none))) else (none))) = some (r1, r2, r3, r4, r5) := by first | (rw [hy844]; with_reducible exact H) | (have H2_ := (Option.bind_some _ _).symm.trans H; rw [hy844]; with_reducible exact H2_) | (have H2_ := (Option.bind_some _ _).symm.trans H; with_reducible exact H2_) | with_reducible exact H | (rw [hy844]; exact H) | exact H
                  have Ny844 := Aside0.mk hy844
                  clear hy844
                  obtain ⟨y847, hy847⟩ : ∃ y_ : List (S25), y_ = (([] : List (S25))) := ⟨_, rfl⟩
                  replace H : (if t827 ≤ (t823.length : Int) then ((some (t823.take (t827 : Int).toNat : List (S25))).bind fun y850 => (if y847.length + y850.length < 1759218604441 then ((some (y847 ++ y850 : List (S25))).bind fun y855 => (if (ji40) ≤ (t823.length : Int) then ((some (t823.drop ((ji40) : Int).toNat : List (S25))).bind fun y858 => (if y855.length + y858.length < 1759218604441 then (some (t817, t818, t819, y844, (y855 ++ y858))) else (none))) else (none))) else (none))) else (none)) = some (r1, r2, r3, r4, r5) := by first | (rw [hy847]; with_reducible exact H) | (have H2_ := (Option.bind_some _ _).symm.trans H; rw [hy847]; with_reducible exact H2_) | (have H2_ := (Option.bind_some _ _).symm.trans H; with_reducible exact H2_) | with_reducible exact H | (rw [hy847]; exact H) | exact H
                  have Ny847 := Aside0.mk hy847
                  clear hy847
                  have c44b0 := eq_true (of_decide_eq_true (by first | (with_reducible assumption) | assumption) : 0 ≤ t827)
                  by_cases c45 : t827 ≤ (t823.length : Int)
                  · rw [if_pos c45] at H
                    have c45b0 := eq_true c45
                    have c45b1 : decide (t827 ≤ (t823.length : Int)) = true := decide_eq_true c45
                    clear c45
                    obtain ⟨y850, hy850⟩ : ∃ y_ : List (S25), y_ = (t823.take (t827 : Int).toNat) := ⟨_, rfl⟩
                    replace H : (if y847.length + y850.length < 1759218604441 then ((some (y847 ++ y850 : List (S25))).bind fun y855 => (if (ji40) ≤ (t823.length : Int) then ((some (t823.drop ((ji40) : Int).toNat : List (S25))).bind fun y858 => (if y855.length + y858.length < 1759218604441 then (some (t817, t818, t819, y844, (y855 ++ y858))) else (none))) else (none))) else (none)) = some (r1, r2, r3, r4, r5) := by first | (rw [hy850]; with_reducible exact H) | (have H2_ := (Option.bind_some _ _).symm.trans H; rw [hy850]; with_reducible exact H2_) | (have H2_ := (Option.bind_some _ _).symm.trans H; with_reducible exact H2_) | with_reducible exact H | (rw [hy850]; exact H) | exact H
                    have Ny850 := Aside0.mk hy850
                    clear hy850
                    by_cases c46 : y847.length + y850.length < 1759218604441
                    · rw [if_pos c46] at H
                      have LMc46 := Aside0.mk c46
                      clear c46
                      obtain ⟨y855, hy855⟩ : ∃ y_ : List (S25), y_ = (y847 ++ y850) := ⟨_, rfl⟩
                      replace H : (if (ji40) ≤ (t823.length : Int) then ((some (t823.drop ((ji40) : Int).toNat : List (S25))).bind fun y858 => (if y855.length + y858.length < 1759218604441 then (some (t817, t818, t819, y844, (y855 ++ y858))) else (none))) else (none)) = some (r1, r2, r3, r4, r5) := by first | (rw [hy855]; with_reducible exact H) | (have H2_ := (Option.bind_some _ _).symm.trans H; rw [hy855]; with_reducible exact H2_) | (have H2_ := (Option.bind_some _ _).symm.trans H; with_reducible exact H2_) | with_reducible exact H | (rw [hy855]; exact H) | exact H
                      have Ny855 := Aside0.mk hy855
                      clear hy855
                      have c47b0 := eq_true (of_decide_eq_true (by first | (with_reducible assumption) | assumption) : 0 ≤ (ji40))
                      by_cases c48 : (ji40) ≤ (t823.length : Int)
                      · rw [if_pos c48] at H
                        have c48b0 := eq_true c48
                        have c48b1 : decide ((ji40) ≤ (t823.length : Int)) = true := decide_eq_true c48
                        clear c48
                        obtain ⟨y858, hy858⟩ : ∃ y_ : List (S25), y_ = (t823.drop ((ji40) : Int).toNat) := ⟨_, rfl⟩
                        replace H : (if y855.length + y858.length < 1759218604441 then (some (t817, t818, t819, y844, (y855 ++ y858))) else (none)) = some (r1, r2, r3, r4, r5) := by first | (rw [hy858]; with_reducible exact H) | (have H2_ := (Option.bind_some _ _).symm.trans H; rw [hy858]; with_reducible exact H2_) | (have H2_ := (Option.bind_some _ _).symm.trans H; with_reducible exact H2_) | with_reducible exact H | (rw [hy858]; exact H) | exact H
                        have Ny858 := Aside0.mk hy858
                        clear hy858
                        by_cases c49 : y855.length + y858.length < 1759218604441
                        · rw [if_pos c49] at H
                          have LMc49 := Aside0.mk c49
                          clear c49
                          obtain ⟨y863, hy863⟩ : ∃ y_ : List (S25), y_ = (y855 ++ y858) := ⟨_, rfl⟩
                          replace H : (some (t817, t818, t819, y844, y863)) = some (r1, r2, r3, r4, r5) := by first | (rw [hy863]; with_reducible exact H) | (have H2_ := (Option.bind_some _ _).symm.trans H; rw [hy863]; with_reducible exact H2_) | (have H2_ := (Option.bind_some _ _).symm.trans H; with_reducible exact H2_) | with_reducible exact H | (rw [hy863]; exact H) | exact H
                          have Ny863 := Aside0.mk hy863
                          clear hy863
                          simp only [Option.some.injEq, Prod.mk.injEq] at H
                          obtain ⟨rfl, rfl, rfl, rfl, rfl⟩ := H
                          try go_wp2
                          have n0_ := Aside0.mk (Kd.R_drew HO822.out)
                          have n1_ := Aside0.mk (Kd.N_drew HO825.out)
                          have n2_ := Aside0.mk (blk_drew BK815.out)
                          have n3_ := Aside0.mk (blk_drew BK816.out)
                          have n4_ := Aside0.mk (blk_drew BK826.out)
                          have n5_ := Aside0.mk (below_drew1 HB.out)
                          clear HO822
                          clear HO825
                          clear BK815
                          clear BK816
                          clear BK826
                          clear HB
                          have HO822 := n0_
                          have HO825 := n1_
                          have BK815 := n2_
                          have BK816 := n3_
                          have BK826 := n4_
                          have HB := n5_
                          clear n0_ n1_ n2_ n3_ n4_ n5_
                          have q51 : (t827 : Int) ≤ ((t820.length : Int) : Int) := of_decide_eq_true (by first | (with_reducible assumption) | assumption)
                          obtain ⟨i051, hi051, _, hsz51, _⟩ := info_parts info9
                          have hroom51 : t820.length ≤ co31 := (Kd.R_reads' HO822.out).2.1
                          have hC51 : Kd.F Kd.string _ _ Ao31 t820.length t820 := (Kd.V_at (base := w.heap.size) (Kd.R_V (Kd.R_types (Kd.R_types (Kd.R_types (Kd.R_apart' (HO822.out) (Kd.N_typed HO825.out) (by decide)) BK815.out (by decide)) BK816.out (by decide)) BK826.out (by decide)))).2.2
                          have hcut51 := cut_to (P := Try.prog) 22 9 .i64 Try.underlying22 hi051 Ao31 t820.length co31 t827 (of_decide_eq_true (by first | (with_reducible assumption) | assumption)) q51 hroom51
                          have hr51 := Kd.F_take (m := (t827 : Int).toNat) hC51 (by omega)
                          have hy51 : y831.length = (t827 : Int).toNat := (by rw [Ny831.out, List.length_take]; omega)
                          rw [← Ny831.out] at hr51
                          rw [← hy51] at hcut51
                          have HO835 := Aside0.mk (show Kd.V Kd.string 9 _ w.heap.size _ (.slice Ao31 y831.length co31) y831 from Kd.V_mk (by omega) hr51)
                          have HC835 := Aside0.mk (show y831.length ≤ co31 from by omega)
                          clear hr51 hC51 hroom51 hi051 hsz51
                          have KY51 := Aside0.mk hy51
                          clear hy51
                          replace q51 := eq_true q51
                          have q52 : ((ji40) : Int) ≤ ((t820.length : Int) : Int) := of_decide_eq_true (by first | (with_reducible assumption) | assumption)
                          obtain ⟨i052, hi052, _, hsz52, _⟩ := info_parts info9
                          have hroom52 : t820.length ≤ co31 := (Kd.R_reads' HO822.out).2.1
                          have hC52 : Kd.F Kd.string _ _ Ao31 t820.length t820 := (Kd.V_at (base := w.heap.size) (Kd.R_V (Kd.R_types (Kd.R_types (Kd.R_types (Kd.R_apart' (HO822.out) (Kd.N_typed HO825.out) (by decide)) BK815.out (by decide)) BK816.out (by decide)) BK826.out (by decide)))).2.2
                          have q052 : (0 : Int) ≤ ((ji40) : Int) := of_decide_eq_true (by first | (with_reducible assumption) | assumption)
                          have hcut52 := cut_from (P := Try.prog) 22 9 .i64 Try.underlying22 hi052 1 hsz52 Ao31 t820.length co31 (ji40) q052 q52
                          have hr52 := Kd.F_cut (m := ((ji40) : Int).toNat) (c := co31) hC52 (by omega) hroom52
                          obtain ⟨A52, hA52⟩ : ∃ A1, A1 = (if co31 = ((ji40) : Int).toNat then Ao31 else (Ao31 : Option Addr).map (·.add (((ji40) : Int).toNat * 1))) := ⟨_, rfl⟩
                          obtain ⟨c52, hc52⟩ : ∃ c1, c1 = co31 - ((ji40) : Int).toNat := ⟨_, rfl⟩
                          have hy52 : y839.length = t820.length - ((ji40) : Int).toNat := (by rw [Ny839.out, List.length_drop] <;> omega)
                          rw [show (t820).drop ((ji40) : Int).toNat = y839 from Ny839.out.symm] at hr52
                          replace hr52 : Kd.F Kd.string _ _ A52 y839.length y839 := (by rw [hA52]; exact hr52)
                          rw [← hy52, ← hA52, ← hc52] at hcut52
                          have HO843 := Aside0.mk (show Kd.V Kd.string 9 _ w.heap.size _ (.slice A52 y839.length c52) y839 from Kd.V_mk (by rw [hy52, hc52]; exact Nat.sub_le_sub_right hroom52 _) hr52)
                          have HC843 := Aside0.mk (show y839.length ≤ c52 from by rw [hy52, hc52]; exact Nat.sub_le_sub_right hroom52 _)
                          clear hr52 hC52 hroom52 hi052 hsz52 hc52
                          have KY52 := Aside0.mk hy52
                          have KA52 := Aside0.mk hA52
                          clear hy52 hA52
                          replace q52 := eq_true q52
                          refine start_ (n := 14) (S := fun w' => w'.cell? ⟨gb826, 0, none⟩ = some (.int .i64 t817) ∧ w'.cell? ⟨gb826, 1, none⟩ = some (.int .i64 t818) ∧ w'.cell? ⟨gb826, 2, none⟩ = some (.string t819) ∧ w'.cell? ⟨gb826, 3, none⟩ = some (.slice Ao31 t820.length co31) ∧ w'.cell? ⟨gb826, 4, none⟩ = some (.slice Ao32 t823.length co32)) (ds := [13]) #[false, false, false, false, false, false, false, false, false, false, false, false, false, false] (by kernel_rfl) rfl rfl ⟨(blk_cell BK826.out 0).trans rfl, (blk_cell BK826.out 1).trans rfl, (blk_cell BK826.out 2).trans rfl, (blk_cell BK826.out 3).trans rfl, (blk_cell BK826.out 4).trans rfl⟩ (fun hHeld => ?_); refine with_tabW spec_Unset.tab5 spec_Unset.bits5 (fun HT_ HW_ => ?_)
                          generalize w34.drew = w50 at HO822 HO825 BK815 BK816 BK826 HB HO835 HO843 hHeld ⊢
                          refine pure_ (i := 1) (N := some 25) (v := _) (a' := _) (bs_ 14 2) rfl rfl (any_of HT_.out (by kernel_rfl)) (fun _ _ _ h => h) (Or.inl ⟨by rfl, by intro w'; go_simp; first | with_reducible rfl | rfl⟩) (by simp only [Act.put, List.setIfInBounds_toArray, List.set_cons_zero, List.set_cons_succ, i64_w, i32_w]; rfl) ?_
                          refine pure_ (i := 3) (N := some 27) (v := _) (a' := _) (bs_ 14 10) rfl rfl (any_of HT_.out (by kernel_rfl)) (fun _ _ _ h => h) (Or.inl ⟨by rfl, by intro w'; go_simp; first | with_reducible rfl | rfl⟩) (by simp only [Act.put, List.setIfInBounds_toArray, List.set_cons_zero, List.set_cons_succ, i64_w, i32_w]; rfl) ?_
                          refine pure_ (i := 6) (N := some 30) (v := _) (a' := _) (bs_ 14 74) rfl rfl (any_of HT_.out (by kernel_rfl)) (fun _ _ _ h => h) (Or.inl ⟨by rfl, by intro w'; go_simp; first | with_reducible rfl | rfl⟩) (by simp only [Act.put, List.setIfInBounds_toArray, List.set_cons_zero, List.set_cons_succ, i64_w, i32_w]; rfl) ?_
                          refine pure_ (i := 8) (N := some 32) (v := _) (a' := _) (bs_ 14 330) rfl rfl (any_of HT_.out (by kernel_rfl)) (fun _ _ _ h => h) (Or.inl ⟨by rfl, by intro w'; go_simp; first | with_reducible rfl | rfl⟩) (by simp only [Act.put, List.setIfInBounds_toArray, List.set_cons_zero, List.set_cons_succ, i64_w, i32_w]; rfl) ?_
                          refine pure_ (i := 9) (N := some 33) (v := _) (a' := _) (bs_ 14 842) rfl rfl (any_of HT_.out (by kernel_rfl)) (fun _ _ _ h => h) (Or.inl ⟨by rfl, by intro w'; go_simp; first | with_reducible rfl | rfl⟩) (by simp only [Act.put, List.setIfInBounds_toArray, List.set_cons_zero, List.set_cons_succ, i64_w, i32_w]; rfl) ?_
                          refine take_ (i := 2) (N := some 26) (v := ?_) (a' := ?_) (bs_ 14 846) rfl rfl (take_ofW HT_.out HW_.out (by kernel_rfl)) (fun _ _ _ h => h) (Or.inl ⟨by rfl, ?_⟩) hHeld ?_ ?_
                          rotate_left
                          · rintro w' ⟨s0, s1, s2, s3, s4⟩
                            go_simp
                            (first | with_reducible rfl | rfl)
                          rotate_left
                          · simp only [Act.put, List.setIfInBounds_toArray, List.set_cons_zero, List.set_cons_succ, i64_w, i32_w]
                            rfl
                          refine pure_ (i := 4) (N := some 28) (v := _) (a' := _) (bs_ 14 862) rfl rfl (any_of HT_.out (by kernel_rfl)) (fun _ _ _ h => h) (Or.inl ⟨by rfl, by intro w'; go_simp; first | with_reducible rfl | rfl⟩) (by simp only [Act.put, List.setIfInBounds_toArray, List.set_cons_zero, List.set_cons_succ, i64_w, i32_w]; rfl) ?_
                          refine take_ (i := 7) (N := some 31) (v := ?_) (a' := ?_) (bs_ 14 990) rfl rfl (take_ofW HT_.out HW_.out (by kernel_rfl)) (fun _ _ _ h => h) (Or.inl ⟨by rfl, ?_⟩) hHeld ?_ ?_
                          rotate_left
                          · rintro w' ⟨s0, s1, s2, s3, s4⟩
                            go_simp
                            (first | with_reducible rfl | rfl)
                          rotate_left
                          · simp only [Act.put, List.setIfInBounds_toArray, List.set_cons_zero, List.set_cons_succ, i64_w, i32_w]
                            rfl
                          refine pure_ (i := 10) (N := some 34) (v := _) (a' := _) (bs_ 14 2014) rfl rfl (any_of HT_.out (by kernel_rfl)) (fun _ _ _ h => h) (Or.inl ⟨by rfl, by intro w'; go_simp; first | with_reducible rfl | rfl⟩) (by simp only [Act.put, List.setIfInBounds_toArray, List.set_cons_zero, List.set_cons_succ, i64_w, i32_w]; rfl) ?_
                          refine one_ (i := 0) (N := some 24) (bs_ 14 2015) rfl rfl (one_of HT_.out (by kernel_rfl)) (by decide) (fun K hK => ?_)
                          refine Kd.R_lit_step Kd.string _ 9 ?hg (N := 24) ?hd (xs := ([] : List ByteArray)) (inner := []) (ok := fun _ => True) (okp := fun _ => True) ?hr ?hp (fun _ hk => hk) trivial (Below.refl _ _) (Nat.le_refl _) (by simp) ?_; (case hd => rfl); (case hg => rfl); (case hr => first | (go_simp; done) | (go_simp; rfl)); (case hp => exact (Reps.none _ _))
                          intro v829 w53 ho54 hb hg_ hnew_
                          clear hg_ hnew_
                          (first | rw [← Ny828.out] at ho54 | (simp only [Int.reduceToNat] at ho54; rw [← Ny828.out] at ho54))
                          have n0_ := Aside0.mk (Kd.R_elder' (by (with_reducible repeat (first | apply Kd.R_alloc | apply Kd.R_drewN | apply Kd.R_drew)); exact HO822.out) (Kd.R_base ho54) hb)
                          have n1_ := Aside0.mk (Kd.N_elder' (by (with_reducible repeat (first | apply Kd.N_alloc | apply Kd.N_drewN | apply Kd.N_drew)); exact HO825.out) (Kd.R_base ho54) hb)
                          have n2_ := Aside0.mk (Kd.V_elder' (by (with_reducible repeat (first | apply Kd.V_alloc | apply Kd.V_drewN | apply Kd.V_drew)); exact HO835.out) (Kd.R_base ho54) hb)
                          have n3_ := Aside0.mk (Kd.V_elder' (by (with_reducible repeat (first | apply Kd.V_alloc | apply Kd.V_drewN | apply Kd.V_drew)); exact HO843.out) (Kd.R_base ho54) hb)
                          have n4_ := Aside0.mk (Kd.R_lower (Kd.R_new' (Kd.R_newM (M := fun k_ => (w.heap.size ≤ k_)) ho54 (below_size (by repeat (first | (with_reducible first | exact HB.out | apply below_alloc | apply pw_below_drewN | apply below_drew1 | refine below_set ?_ GE815.out | refine below_set ?_ GE816.out | refine below_set ?_ GE826.out) | exact HB.out))) (fun k_ h_ => h_)) (Kd.R_lt (by (with_reducible repeat (first | apply Kd.R_alloc | apply Kd.R_drewN | apply Kd.R_drew)); exact HO822.out))) (below_size (by repeat (first | (with_reducible first | exact HB.out | apply below_alloc | apply pw_below_drewN | apply below_drew1 | refine below_set ?_ GE815.out | refine below_set ?_ GE816.out | refine below_set ?_ GE826.out) | exact HB.out))))
                          have n5_ := Aside0.mk (blk_below (g := gb815) (o := .cells #[.int .i64 a0_0, .int .i64 a0_1, .string a0_2, .slice A0_3 l0_3.length c0_3, .slice A0_4 l0_4.length c0_4] 25 (0, 0)) (by (with_reducible repeat (first | refine blk_drewN ?_ _ | refine blk_drew ?_ | refine blk_alloc ?_ _)); exact BK815.out) hb)
                          have n6_ := Aside0.mk (blk_below (g := gb816) (o := .cells #[.int .i64 0, .int .i64 0, .string (⟨#[]⟩ : ByteArray), .slice none 0 0, .slice none 0 0] 25 (0, 0)) (by (with_reducible repeat (first | refine blk_drewN ?_ _ | refine blk_drew ?_ | refine blk_alloc ?_ _)); exact BK816.out) hb)
                          have n7_ := Aside0.mk (blk_below (g := gb826) (o := .cells #[.int .i64 t817, .int .i64 t818, .string t819, .slice Ao31 t820.length co31, .slice Ao32 t823.length co32] 25 (0, 0)) (by (with_reducible repeat (first | refine blk_drewN ?_ _ | refine blk_drew ?_ | refine blk_alloc ?_ _)); exact BK826.out) hb)
                          have n8_ := Aside0.mk (below_step (by repeat (first | (with_reducible first | exact HB.out | apply below_alloc | apply pw_below_drewN | apply below_drew1 | refine below_set ?_ GE815.out | refine below_set ?_ GE816.out | refine below_set ?_ GE826.out) | exact HB.out)) hb)
                          clear HO822
                          clear HO825
                          clear HO835
                          clear HO843
                          clear BK815
                          clear BK816
                          clear BK826
                          clear HB
                          have HO822 := n0_
                          have HO825 := n1_
                          have HO835 := n2_
                          have HO843 := n3_
                          have HO830 := n4_
                          have BK815 := n5_
                          have BK816 := n6_
                          have BK826 := n7_
                          have HB := n8_
                          clear n0_ n1_ n2_ n3_ n4_ n5_ n6_ n7_ n8_
                          clear hb ho54
                          refine hK.out _ _ ⟨(blk_cell BK826.out 0).trans rfl, (blk_cell BK826.out 1).trans rfl, (blk_cell BK826.out 2).trans rfl, (blk_cell BK826.out 3).trans rfl, (blk_cell BK826.out 4).trans rfl⟩ (fun hHeld => ?_)
                          clear hK K
                          refine norm_ (a' := ?_) ?_ ?_
                          rotate_left
                          · show Act.put _ (some 24) _ = _
                            simp only [Act.put, List.setIfInBounds_toArray, List.set_cons_zero, List.set_cons_succ, i64_w, i32_w]
                            rfl
                          refine one_ (i := 5) (N := some 29) (bs_ 14 2047) rfl rfl (one_of HT_.out (by kernel_rfl)) (by decide) (fun K hK => ?_)
                          refine Kd.R_append_rows_step Kd.string (w0 := w) w.heap.size (by rfl) (.tmp 24) (.tmp 28) 22 9 (.string ⟨#[]⟩) 16 rfl Try.underlying22 info9 rfl (by decide) (by omega) v829 y828 y831 _ _ _ (fun k_ => (w.heap.size ≤ k_) ∧ some k_ ≠ (.slice Ao31 t820.length co31 : Value).ownBlock) (fun _ => False) rfl rfl ?aO ?aR (fun _ _ h => h) (fun _ h => h.elim) ?aF ?aB ?aS ?aL ?_
                          (case aR => repeat (first | exact (Kd.V_reads' HO835.out).2.2 | (with_reducible refine Kd.C_alloc ?_ _) | (with_reducible refine Kd.C_drewN ?_ _) | (with_reducible refine Kd.C_drew ?_)))
                          (case aB => exact (by repeat (first | (with_reducible first | exact HB.out | apply below_alloc | apply pw_below_drewN | apply below_drew1 | refine below_set ?_ GE815.out | refine below_set ?_ GE816.out | refine below_set ?_ GE826.out) | exact HB.out)))
                          (case aF => exact (fun k_ hk => ⟨(Nat.le_trans (below_size (by repeat (first | (with_reducible first | exact HB.out | apply below_alloc | apply pw_below_drewN | apply below_drew1 | refine below_set ?_ GE815.out | refine below_set ?_ GE816.out | refine below_set ?_ GE826.out) | exact HB.out))) hk), Kd.fresh' (Kd.R_lt (by (with_reducible repeat (first | apply Kd.R_alloc | apply Kd.R_drewN | apply Kd.R_drew)); exact HO822.out)) k_ hk⟩))
                          (case aO => exact (by (with_reducible repeat (first | apply Kd.R_alloc | apply Kd.R_drewN | apply Kd.R_drew)); exact Kd.R_mono HO830.out (fun _ hk => ⟨hk.1.1, hk.2⟩)))
                          (case aS => exact (below_size (by repeat (first | (with_reducible first | exact HB.out | apply below_alloc | apply pw_below_drewN | apply below_drew1 | refine below_set ?_ GE815.out | refine below_set ?_ GE816.out | refine below_set ?_ GE826.out) | exact HB.out))))
                          (case aL => have := LMc39.out; omega)
                          intro v837 w55 ho hb hg hat
                          rw [← Ny836.out] at ho
                          have n0_ := Aside0.mk (blk_grown (g := gb815) (o := .cells #[.int .i64 a0_0, .int .i64 a0_1, .string a0_2, .slice A0_3 l0_3.length c0_3, .slice A0_4 l0_4.length c0_4] 25 (0, 0)) (by (with_reducible repeat (first | refine blk_drewN ?_ _ | refine blk_drew ?_ | refine blk_alloc ?_ _)); exact BK815.out) hg (Kd.R_ne HO830.out BK815.out (by decide)))
                          have n1_ := Aside0.mk (blk_grown (g := gb816) (o := .cells #[.int .i64 0, .int .i64 0, .string (⟨#[]⟩ : ByteArray), .slice none 0 0, .slice none 0 0] 25 (0, 0)) (by (with_reducible repeat (first | refine blk_drewN ?_ _ | refine blk_drew ?_ | refine blk_alloc ?_ _)); exact BK816.out) hg (Kd.R_ne HO830.out BK816.out (by decide)))
                          have n2_ := Aside0.mk (Kd.R_after (ok := (fun k_ => (w.heap.size ≤ k_))) (by (with_reducible repeat (first | apply Kd.R_alloc | apply Kd.R_drewN | apply Kd.R_drew)); exact Kd.R_mono HO822.out (fun _ hk => ⟨hk.1.1, hk.2⟩)) hg hat)
                          have n3_ := Aside0.mk (Kd.N_afterv (ok := (fun k_ => (w.heap.size ≤ k_) ∧ some k_ ≠ (.slice Ao31 t820.length co31 : Value).ownBlock ∧ k_ ≠ gb815 ∧ k_ ≠ gb816 ∧ k_ ≠ gb826)) (by (with_reducible repeat (first | apply Kd.N_alloc | apply Kd.N_drewN | apply Kd.N_drew)); exact Kd.N_mono HO825.out (fun _ hk => ⟨⟨hk.1.1.1, ⟨hk.1.1.2.1, ⟨hk.1.1.2.2.1, ⟨hk.1.1.2.2.2, hk.1.2⟩⟩⟩⟩, hk.2⟩)) hg hat)
                          have n4_ := Aside0.mk (blk_grown (g := gb826) (o := .cells #[.int .i64 t817, .int .i64 t818, .string t819, .slice Ao31 t820.length co31, .slice Ao32 t823.length co32] 25 (0, 0)) (by (with_reducible repeat (first | refine blk_drewN ?_ _ | refine blk_drew ?_ | refine blk_alloc ?_ _)); exact BK826.out) hg (Kd.R_ne HO830.out BK826.out (by decide)))
                          have n5_ := Aside0.mk (Kd.V_afterv (ok := (fun k_ => (w.heap.size ≤ k_) ∧ some k_ ≠ (.slice Ao32 t823.length co32 : Value).ownBlock ∧ k_ ≠ gb815 ∧ k_ ≠ gb816 ∧ k_ ≠ gb826)) (by (with_reducible repeat (first | apply Kd.V_alloc | apply Kd.V_drewN | apply Kd.V_drew)); exact Kd.V_mono HO835.out (fun _ hk => ⟨⟨hk.1.1.1.1.1.1, ⟨hk.1.1.1.1.2, ⟨hk.1.1.1.2, ⟨hk.1.1.2, hk.1.2⟩⟩⟩⟩, hk.2⟩)) hg hat)
                          have n6_ := Aside0.mk (Kd.V_afterv (ok := (fun k_ => (w.heap.size ≤ k_) ∧ some k_ ≠ (.slice Ao32 t823.length co32 : Value).ownBlock ∧ k_ ≠ gb815 ∧ k_ ≠ gb816 ∧ k_ ≠ gb826)) (by (with_reducible repeat (first | apply Kd.V_alloc | apply Kd.V_drewN | apply Kd.V_drew)); exact Kd.V_mono HO843.out (fun _ hk => ⟨⟨hk.1.1.1.1.1.1, ⟨hk.1.1.1.1.2, ⟨hk.1.1.1.2, ⟨hk.1.1.2, hk.1.2⟩⟩⟩⟩, hk.2⟩)) hg hat)
                          have n7_ := Aside0.mk (hb)
                          have n8_ := Aside0.mk (ho)
                          clear BK815
                          clear BK816
                          clear HO822
                          clear HO825
                          clear BK826
                          clear HO835
                          clear HO843
                          clear HB
                          clear HO830
                          have BK815 := n0_
                          have BK816 := n1_
                          have HO822 := n2_
                          have HO825 := n3_
                          have BK826 := n4_
                          have HO835 := n5_
                          have HO843 := n6_
                          have HB := n7_
                          have HO838 := n8_
                          clear n0_ n1_ n2_ n3_ n4_ n5_ n6_ n7_ n8_
                          clear ho hb hg hat
                          refine hK.out _ _ ⟨(blk_cell BK826.out 0).trans rfl, (blk_cell BK826.out 1).trans rfl, (blk_cell BK826.out 2).trans rfl, (blk_cell BK826.out 3).trans rfl, (blk_cell BK826.out 4).trans rfl⟩ (fun hHeld => ?_)
                          clear hK K
                          refine norm_ (a' := ?_) ?_ ?_
                          rotate_left
                          · show Act.put _ (some 29) _ = _
                            simp only [Act.put, List.setIfInBounds_toArray, List.set_cons_zero, List.set_cons_succ, i64_w, i32_w]
                            rfl
                          refine one_ (i := 11) (N := some 35) (bs_ 14 4095) rfl rfl (one_of HT_.out (by kernel_rfl)) (by decide) (fun K hK => ?_)
                          refine Kd.R_append_rows_step Kd.string (w0 := w) w.heap.size (by rfl) (.tmp 29) (.tmp 34) 22 9 (.string ⟨#[]⟩) 16 rfl Try.underlying22 info9 rfl (by decide) (by omega) v837 y836 y839 _ _ _ (fun k_ => (w.heap.size ≤ k_) ∧ some k_ ≠ (.slice Ao31 t820.length co31 : Value).ownBlock) (fun _ => False) rfl rfl ?aO ?aR (fun _ _ h => h) (fun _ h => h.elim) ?aF ?aB ?aS ?aL ?_
                          (case aR => repeat (first | exact (Kd.V_reads' HO843.out).2.2 | (with_reducible refine Kd.C_alloc ?_ _) | (with_reducible refine Kd.C_drewN ?_ _) | (with_reducible refine Kd.C_drew ?_)))
                          (case aB => exact (by repeat (first | (with_reducible first | exact HB.out | apply below_alloc | apply pw_below_drewN | apply below_drew1 | refine below_set ?_ GE815.out | refine below_set ?_ GE816.out | refine below_set ?_ GE826.out) | exact HB.out)))
                          (case aF => exact (fun k_ hk => ⟨(Nat.le_trans (below_size (by repeat (first | (with_reducible first | exact HB.out | apply below_alloc | apply pw_below_drewN | apply below_drew1 | refine below_set ?_ GE815.out | refine below_set ?_ GE816.out | refine below_set ?_ GE826.out) | exact HB.out))) hk), Kd.fresh' (Kd.R_lt (by (with_reducible repeat (first | apply Kd.R_alloc | apply Kd.R_drewN | apply Kd.R_drew)); exact HO822.out)) k_ hk⟩))
                          (case aO => exact (by (with_reducible repeat (first | apply Kd.R_alloc | apply Kd.R_drewN | apply Kd.R_drew)); exact HO838.out))
                          (case aS => exact (below_size (by repeat (first | (with_reducible first | exact HB.out | apply below_alloc | apply pw_below_drewN | apply below_drew1 | refine below_set ?_ GE815.out | refine below_set ?_ GE816.out | refine below_set ?_ GE826.out) | exact HB.out))))
                          (case aL => have := LMc43.out; omega)
                          intro v845 w56 ho hb hg hat
                          rw [← Ny844.out] at ho
                          have n0_ := Aside0.mk (blk_grown (g := gb815) (o := .cells #[.int .i64 a0_0, .int .i64 a0_1, .string a0_2, .slice A0_3 l0_3.length c0_3, .slice A0_4 l0_4.length c0_4] 25 (0, 0)) (by (with_reducible repeat (first | refine blk_drewN ?_ _ | refine blk_drew ?_ | refine blk_alloc ?_ _)); exact BK815.out) hg (Kd.R_ne HO838.out BK815.out (by decide)))
                          have n1_ := Aside0.mk (blk_grown (g := gb816) (o := .cells #[.int .i64 0, .int .i64 0, .string (⟨#[]⟩ : ByteArray), .slice none 0 0, .slice none 0 0] 25 (0, 0)) (by (with_reducible repeat (first | refine blk_drewN ?_ _ | refine blk_drew ?_ | refine blk_alloc ?_ _)); exact BK816.out) hg (Kd.R_ne HO838.out BK816.out (by decide)))
                          have n2_ := Aside0.mk (Kd.R_after (ok := (fun k_ => (w.heap.size ≤ k_))) (by (with_reducible repeat (first | apply Kd.R_alloc | apply Kd.R_drewN | apply Kd.R_drew)); exact HO822.out) hg hat)
                          have n3_ := Aside0.mk (Kd.N_afterv (ok := (fun k_ => (w.heap.size ≤ k_) ∧ some k_ ≠ (.slice Ao31 t820.length co31 : Value).ownBlock ∧ k_ ≠ gb815 ∧ k_ ≠ gb816 ∧ k_ ≠ gb826)) (by (with_reducible repeat (first | apply Kd.N_alloc | apply Kd.N_drewN | apply Kd.N_drew)); exact HO825.out) hg hat)
                          have n4_ := Aside0.mk (blk_grown (g := gb826) (o := .cells #[.int .i64 t817, .int .i64 t818, .string t819, .slice Ao31 t820.length co31, .slice Ao32 t823.length co32] 25 (0, 0)) (by (with_reducible repeat (first | refine blk_drewN ?_ _ | refine blk_drew ?_ | refine blk_alloc ?_ _)); exact BK826.out) hg (Kd.R_ne HO838.out BK826.out (by decide)))
                          have n5_ := Aside0.mk (Kd.V_afterv (ok := (fun k_ => (w.heap.size ≤ k_) ∧ some k_ ≠ (.slice Ao32 t823.length co32 : Value).ownBlock ∧ k_ ≠ gb815 ∧ k_ ≠ gb816 ∧ k_ ≠ gb826)) (by (with_reducible repeat (first | apply Kd.V_alloc | apply Kd.V_drewN | apply Kd.V_drew)); exact HO835.out) hg hat)
                          have n6_ := Aside0.mk (Kd.V_afterv (ok := (fun k_ => (w.heap.size ≤ k_) ∧ some k_ ≠ (.slice Ao32 t823.length co32 : Value).ownBlock ∧ k_ ≠ gb815 ∧ k_ ≠ gb816 ∧ k_ ≠ gb826)) (by (with_reducible repeat (first | apply Kd.V_alloc | apply Kd.V_drewN | apply Kd.V_drew)); exact HO843.out) hg hat)
                          have n7_ := Aside0.mk (hb)
                          have n8_ := Aside0.mk (ho)
                          clear BK815
                          clear BK816
                          clear HO822
                          clear HO825
                          clear BK826
                          clear HO835
                          clear HO843
                          clear HB
                          clear HO838
                          have BK815 := n0_
                          have BK816 := n1_
                          have HO822 := n2_
                          have HO825 := n3_
                          have BK826 := n4_
                          have HO835 := n5_
                          have HO843 := n6_
                          have HB := n7_
                          have HO846 := n8_
                          clear n0_ n1_ n2_ n3_ n4_ n5_ n6_ n7_ n8_
                          clear ho hb hg hat
                          obtain ⟨Ao57, co57, eo57⟩ := Kd.R_slice HO846.out
                          (first | subst eo57 | (injection eo57 with f1_ f2_ f3_; have f4_ := f1_.symm; have f5_ := f3_.symm; clear f1_ f2_ f3_; subst f4_; subst f5_))
                          refine hK.out _ _ ⟨(blk_cell BK826.out 0).trans rfl, (blk_cell BK826.out 1).trans rfl, (blk_cell BK826.out 2).trans rfl, (blk_cell BK826.out 3).trans rfl, (blk_cell BK826.out 4).trans rfl⟩ (fun hHeld => ?_)
                          clear hK K
                          refine norm_ (a' := ?_) ?_ ?_
                          rotate_left
                          · show Act.put _ (some 35) _ = _
                            simp only [Act.put, List.setIfInBounds_toArray, List.set_cons_zero, List.set_cons_succ, i64_w, i32_w]
                            rfl
                          refine pure_ (i := 12) (N := some 36) (v := _) (a' := _) (bs_ 14 8191) rfl rfl (any_of HT_.out (by kernel_rfl)) (fun _ _ _ h => h) (Or.inl ⟨by rfl, by intro w'; go_simp; first | with_reducible rfl | rfl⟩) (by simp only [Act.put, List.setIfInBounds_toArray, List.set_cons_zero, List.set_cons_succ, i64_w, i32_w]; rfl) ?_
                          refine last_ (i := 13) (N := none) (bs_ 14 16383) rfl rfl (one_of HT_.out (by kernel_rfl)) (by decide) (fun K hK => ?_)
                          have hs58 : w56.cell? ⟨gb826, 3, none⟩ = some (.slice Ao31 t820.length co31) := (blk_cell BK826.out 3).trans rfl
                          have hfs58 := blk_frozen BK826.out 3
                          have hns58_0 := NB815_826.out
                          have hns58_1 := NB816_826.out
                          have hms58_0 := NB826_815.out
                          have hms58_1 := NB826_816.out
                          refine skip_ (w1 := ?_) (by rfl) rfl ?_ ?_
                          rotate_left
                          · go_simp
                            rfl
                          refine hK.out _ _ ?_
                          clear hK K
                          refine done_ (done_of HT_.out (by kernel_rfl)) ?_
                          try go_wp2
                          have n0_ : Aside0 (Kd.R Kd.string 9 (w56.setCell ⟨gb826, 3, none⟩ (.slice Ao57 y844.length co57)) w.heap.size (fun k_ => (w.heap.size ≤ k_) ∧ some k_ ≠ (.slice Ao57 y844.length co57 : Value).ownBlock) (.slice Ao31 t820.length co31) t820) := ⟨by (with_reducible repeat (first | apply Kd.R_alloc | apply Kd.R_drewN | apply Kd.R_drew)); exact Kd.R_mono (Kd.R_far (p := ⟨gb826, 3, none⟩) (Kd.R_types HO822.out BK826.out (by decide)) (fun _ hk => hk.2) (.slice Ao57 y844.length co57)) (fun _ hk => ⟨hk.1.1, hk.1.2⟩)⟩
                          have n1_ : Aside0 (Kd.N k25 25 (w56.setCell ⟨gb826, 3, none⟩ (.slice Ao57 y844.length co57)) w.heap.size (fun k_ => (w.heap.size ≤ k_) ∧ some k_ ≠ (.slice Ao31 t820.length co31 : Value).ownBlock ∧ some k_ ≠ (.slice Ao57 y844.length co57 : Value).ownBlock ∧ k_ ≠ gb815 ∧ k_ ≠ gb816 ∧ k_ ≠ gb826) (.slice Ao32 t823.length co32) t823) := ⟨by (with_reducible repeat (first | apply Kd.N_alloc | apply Kd.N_drewN | apply Kd.N_drew)); exact Kd.N_mono (Kd.N_far (p := ⟨gb826, 3, none⟩) (Kd.N_mono HO825.out (fun k_ hk => (⟨hk, hk.1.2.2.2.2⟩ : _ ∧ k_ ≠ gb826))) (fun _ hk => hk.2) (.slice Ao57 y844.length co57)) (fun _ hk => ⟨hk.1.1.1, ⟨hk.1.1.2.1, ⟨hk.1.2, ⟨hk.1.1.2.2.1, ⟨hk.1.1.2.2.2.1, hk.1.1.2.2.2.2⟩⟩⟩⟩⟩)⟩
                          have n2_ : Aside0 (Kd.V Kd.string 9 (w56.setCell ⟨gb826, 3, none⟩ (.slice Ao57 y844.length co57)) w.heap.size (fun k_ => (w.heap.size ≤ k_) ∧ some k_ ≠ (.slice Ao32 t823.length co32 : Value).ownBlock ∧ some k_ ≠ (.slice Ao57 y844.length co57 : Value).ownBlock ∧ k_ ≠ gb815 ∧ k_ ≠ gb816 ∧ k_ ≠ gb826) (.slice Ao31 y831.length co31) y831) := ⟨by (with_reducible repeat (first | apply Kd.V_alloc | apply Kd.V_drewN | apply Kd.V_drew)); exact Kd.V_mono (Kd.V_far (p := ⟨gb826, 3, none⟩) (Kd.V_mono HO835.out (fun k_ hk => (⟨hk, hk.1.2.2.2.2⟩ : _ ∧ k_ ≠ gb826))) (fun _ hk => hk.2) (.slice Ao57 y844.length co57)) (fun _ hk => ⟨hk.1.1.1, ⟨hk.1.1.2.1, ⟨hk.1.2, ⟨hk.1.1.2.2.1, ⟨hk.1.1.2.2.2.1, hk.1.1.2.2.2.2⟩⟩⟩⟩⟩)⟩
                          have n3_ : Aside0 (Kd.V Kd.string 9 (w56.setCell ⟨gb826, 3, none⟩ (.slice Ao57 y844.length co57)) w.heap.size (fun k_ => (w.heap.size ≤ k_) ∧ some k_ ≠ (.slice Ao32 t823.length co32 : Value).ownBlock ∧ some k_ ≠ (.slice Ao57 y844.length co57 : Value).ownBlock ∧ k_ ≠ gb815 ∧ k_ ≠ gb816 ∧ k_ ≠ gb826) (.slice A52 y839.length c52) y839) := ⟨by (with_reducible repeat (first | apply Kd.V_alloc | apply Kd.V_drewN | apply Kd.V_drew)); exact Kd.V_mono (Kd.V_far (p := ⟨gb826, 3, none⟩) (Kd.V_mono HO843.out (fun k_ hk => (⟨hk, hk.1.2.2.2.2⟩ : _ ∧ k_ ≠ gb826))) (fun _ hk => hk.2) (.slice Ao57 y844.length co57)) (fun _ hk => ⟨hk.1.1.1, ⟨hk.1.1.2.1, ⟨hk.1.2, ⟨hk.1.1.2.2.1, ⟨hk.1.1.2.2.2.1, hk.1.1.2.2.2.2⟩⟩⟩⟩⟩)⟩
                          have n4_ : Aside0 (Kd.R Kd.string 9 (w56.setCell ⟨gb826, 3, none⟩ (.slice Ao57 y844.length co57)) w.heap.size (fun k_ => (w.heap.size ≤ k_) ∧ some k_ ≠ (.slice Ao31 t820.length co31 : Value).ownBlock) (.slice Ao57 y844.length co57) y844) := ⟨by (with_reducible repeat (first | apply Kd.R_alloc | apply Kd.R_drewN | apply Kd.R_drew)); exact Kd.R_mono (Kd.R_far (p := ⟨gb826, 3, none⟩) (Kd.R_types HO846.out BK826.out (by decide)) (fun _ hk => hk.2) (.slice Ao57 y844.length co57)) (fun _ hk => ⟨hk.1.1, hk.1.2⟩)⟩
                          have n5_ : Aside0 ((w56.setCell ⟨gb826, 3, none⟩ (.slice Ao57 y844.length co57)).heap[gb815]? = some (.cells #[.int .i64 a0_0, .int .i64 a0_1, .string a0_2, .slice A0_3 l0_3.length c0_3, .slice A0_4 l0_4.length c0_4] 25 (0, 0))) := ⟨by (with_reducible repeat (first | refine blk_drewN ?_ _ | refine blk_drew ?_ | refine blk_alloc ?_ _)); refine blk_far ?_ NB815_826.out _; (with_reducible repeat (first | refine blk_drewN ?_ _ | refine blk_drew ?_ | refine blk_alloc ?_ _)); exact BK815.out⟩
                          have n6_ : Aside0 ((w56.setCell ⟨gb826, 3, none⟩ (.slice Ao57 y844.length co57)).heap[gb816]? = some (.cells #[.int .i64 0, .int .i64 0, .string (⟨#[]⟩ : ByteArray), .slice none 0 0, .slice none 0 0] 25 (0, 0))) := ⟨by (with_reducible repeat (first | refine blk_drewN ?_ _ | refine blk_drew ?_ | refine blk_alloc ?_ _)); refine blk_far ?_ NB816_826.out _; (with_reducible repeat (first | refine blk_drewN ?_ _ | refine blk_drew ?_ | refine blk_alloc ?_ _)); exact BK816.out⟩
                          have n7_ : Aside0 ((w56.setCell ⟨gb826, 3, none⟩ (.slice Ao57 y844.length co57)).heap[gb826]? = some (.cells #[.int .i64 t817, .int .i64 t818, .string t819, .slice Ao57 y844.length co57, .slice Ao32 t823.length co32] 25 (0, 0))) := ⟨by (with_reducible repeat (first | refine blk_drewN ?_ _ | refine blk_drew ?_ | refine blk_alloc ?_ _)); refine blk_put (cs := #[.int .i64 t817, .int .i64 t818, .string t819, .slice Ao31 t820.length co31, .slice Ao32 t823.length co32]) ?_ 3 _ rfl; (with_reducible repeat (first | refine blk_drewN ?_ _ | refine blk_drew ?_ | refine blk_alloc ?_ _)); exact BK826.out⟩
                          have n8_ : Aside0 (Below w.heap.size w (w56.setCell ⟨gb826, 3, none⟩ (.slice Ao57 y844.length co57))) := ⟨by repeat (first | (with_reducible first | exact HB.out | apply below_alloc | apply pw_below_drewN | apply below_drew1 | refine below_set ?_ GE815.out | refine below_set ?_ GE816.out | refine below_set ?_ GE826.out) | exact HB.out)⟩
                          (try clear HO822)
                          (try clear HO825)
                          (try clear HO835)
                          (try clear HO843)
                          (try clear HO846)
                          (try clear BK815)
                          (try clear BK816)
                          (try clear BK826)
                          (try clear HB)
                          generalize (w56.setCell ⟨gb826, 3, none⟩ (.slice Ao57 y844.length co57)) = w59 at n0_ n1_ n2_ n3_ n4_ n5_ n6_ n7_ n8_ ⊢
                          have HO822 := n0_
                          have HO825 := n1_
                          have HO835 := n2_
                          have HO843 := n3_
                          have HO846 := n4_
                          have BK815 := n5_
                          have BK816 := n6_
                          have BK826 := n7_
                          have HB := n8_
                          clear n0_ n1_ n2_ n3_ n4_ n5_ n6_ n7_ n8_
                          have n0_ := Aside0.mk (Kd.R_drew HO822.out)
                          have n1_ := Aside0.mk (Kd.N_drew HO825.out)
                          have n2_ := Aside0.mk (Kd.V_drew HO835.out)
                          have n3_ := Aside0.mk (Kd.V_drew HO843.out)
                          have n4_ := Aside0.mk (Kd.R_drew HO846.out)
                          have n5_ := Aside0.mk (blk_drew BK815.out)
                          have n6_ := Aside0.mk (blk_drew BK816.out)
                          have n7_ := Aside0.mk (blk_drew BK826.out)
                          have n8_ := Aside0.mk (below_drew1 HB.out)
                          clear HO822
                          clear HO825
                          clear HO835
                          clear HO843
                          clear HO846
                          clear BK815
                          clear BK816
                          clear BK826
                          clear HB
                          have HO822 := n0_
                          have HO825 := n1_
                          have HO835 := n2_
                          have HO843 := n3_
                          have HO846 := n4_
                          have BK815 := n5_
                          have BK816 := n6_
                          have BK826 := n7_
                          have HB := n8_
                          clear n0_ n1_ n2_ n3_ n4_ n5_ n6_ n7_ n8_
                          have q61 : (t827 : Int) ≤ ((t823.length : Int) : Int) := of_decide_eq_true (by first | (with_reducible assumption) | assumption)
                          obtain ⟨i061, hi061, _, hsz61, _⟩ := info_parts info25
                          have hroom61 : t823.length ≤ co32 := (Kd.N_reads' HO825.out).2.1
                          have hC61 : Kd.F k25 _ _ Ao32 t823.length t823 := (Kd.V_at (base := w.heap.size) (Kd.N_V HO825.out)).2.2
                          have hcut61 := cut_to (P := Try.prog) 23 25 .i64 Try.underlying23 hi061 Ao32 t823.length co32 t827 (of_decide_eq_true (by first | (with_reducible assumption) | assumption)) q61 hroom61
                          have hr61 := Kd.F_take (m := (t827 : Int).toNat) hC61 (by omega)
                          have hy61 : y850.length = (t827 : Int).toNat := (by rw [Ny850.out, List.length_take]; omega)
                          rw [← Ny850.out] at hr61
                          rw [← hy61] at hcut61
                          have HO854 := Aside0.mk (show Kd.V k25 25 _ w.heap.size _ (.slice Ao32 y850.length co32) y850 from Kd.V_mk (by omega) hr61)
                          have HC854 := Aside0.mk (show y850.length ≤ co32 from by omega)
                          clear hr61 hC61 hroom61 hi061 hsz61
                          have KY61 := Aside0.mk hy61
                          clear hy61
                          replace q61 := eq_true q61
                          have q62 : ((ji40) : Int) ≤ ((t823.length : Int) : Int) := of_decide_eq_true (by first | (with_reducible assumption) | assumption)
                          obtain ⟨i062, hi062, _, hsz62, _⟩ := info_parts info25
                          have hroom62 : t823.length ≤ co32 := (Kd.N_reads' HO825.out).2.1
                          have hC62 : Kd.F k25 _ _ Ao32 t823.length t823 := (Kd.V_at (base := w.heap.size) (Kd.N_V HO825.out)).2.2
                          have q062 : (0 : Int) ≤ ((ji40) : Int) := of_decide_eq_true (by first | (with_reducible assumption) | assumption)
                          have hcut62 := cut_from (P := Try.prog) 23 25 .i64 Try.underlying23 hi062 5 hsz62 Ao32 t823.length co32 (ji40) q062 q62
                          have hr62 := Kd.F_cut (m := ((ji40) : Int).toNat) (c := co32) hC62 (by omega) hroom62
                          obtain ⟨A62, hA62⟩ : ∃ A1, A1 = (if co32 = ((ji40) : Int).toNat then Ao32 else (Ao32 : Option Addr).map (·.add (((ji40) : Int).toNat * 5))) := ⟨_, rfl⟩
                          obtain ⟨c62, hc62⟩ : ∃ c1, c1 = co32 - ((ji40) : Int).toNat := ⟨_, rfl⟩
                          have hy62 : y858.length = t823.length - ((ji40) : Int).toNat := (by rw [Ny858.out, List.length_drop] <;> omega)
                          rw [show (t823).drop ((ji40) : Int).toNat = y858 from Ny858.out.symm] at hr62
                          replace hr62 : Kd.F k25 _ _ A62 y858.length y858 := (by rw [hA62]; exact hr62)
                          rw [← hy62, ← hA62, ← hc62] at hcut62
                          have HO862 := Aside0.mk (show Kd.V k25 25 _ w.heap.size _ (.slice A62 y858.length c62) y858 from Kd.V_mk (by rw [hy62, hc62]; exact Nat.sub_le_sub_right hroom62 _) hr62)
                          have HC862 := Aside0.mk (show y858.length ≤ c62 from by rw [hy62, hc62]; exact Nat.sub_le_sub_right hroom62 _)
                          clear hr62 hC62 hroom62 hi062 hsz62 hc62
                          have KY62 := Aside0.mk hy62
                          have KA62 := Aside0.mk hA62
                          clear hy62 hA62
                          replace q62 := eq_true q62
                          refine start_ (n := 14) (S := fun w' => w'.cell? ⟨gb826, 0, none⟩ = some (.int .i64 t817) ∧ w'.cell? ⟨gb826, 1, none⟩ = some (.int .i64 t818) ∧ w'.cell? ⟨gb826, 2, none⟩ = some (.string t819) ∧ w'.cell? ⟨gb826, 3, none⟩ = some (.slice Ao57 y844.length co57) ∧ w'.cell? ⟨gb826, 4, none⟩ = some (.slice Ao32 t823.length co32)) (ds := [13]) #[false, false, false, false, false, false, false, false, false, false, false, false, false, false] (by kernel_rfl) rfl rfl ⟨(blk_cell BK826.out 0).trans rfl, (blk_cell BK826.out 1).trans rfl, (blk_cell BK826.out 2).trans rfl, (blk_cell BK826.out 3).trans rfl, (blk_cell BK826.out 4).trans rfl⟩ (fun hHeld => ?_); refine with_tabW spec_Unset.tab6 spec_Unset.bits6 (fun HT_ HW_ => ?_)
                          generalize w59.drew = w60 at HO822 HO825 HO835 HO843 HO846 BK815 BK816 BK826 HB HO854 HO862 hHeld ⊢
                          refine pure_ (i := 1) (N := some 38) (v := _) (a' := _) (bs_ 14 2) rfl rfl (any_of HT_.out (by kernel_rfl)) (fun _ _ _ h => h) (Or.inl ⟨by rfl, by intro w'; go_simp; first | with_reducible rfl | rfl⟩) (by simp only [Act.put, List.setIfInBounds_toArray, List.set_cons_zero, List.set_cons_succ, i64_w, i32_w]; rfl) ?_
                          refine pure_ (i := 3) (N := some 40) (v := _) (a' := _) (bs_ 14 10) rfl rfl (any_of HT_.out (by kernel_rfl)) (fun _ _ _ h => h) (Or.inl ⟨by rfl, by intro w'; go_simp; first | with_reducible rfl | rfl⟩) (by simp only [Act.put, List.setIfInBounds_toArray, List.set_cons_zero, List.set_cons_succ, i64_w, i32_w]; rfl) ?_
                          refine pure_ (i := 6) (N := some 43) (v := _) (a' := _) (bs_ 14 74) rfl rfl (any_of HT_.out (by kernel_rfl)) (fun _ _ _ h => h) (Or.inl ⟨by rfl, by intro w'; go_simp; first | with_reducible rfl | rfl⟩) (by simp only [Act.put, List.setIfInBounds_toArray, List.set_cons_zero, List.set_cons_succ, i64_w, i32_w]; rfl) ?_
                          refine pure_ (i := 8) (N := some 45) (v := _) (a' := _) (bs_ 14 330) rfl rfl (any_of HT_.out (by kernel_rfl)) (fun _ _ _ h => h) (Or.inl ⟨by rfl, by intro w'; go_simp; first | with_reducible rfl | rfl⟩) (by simp only [Act.put, List.setIfInBounds_toArray, List.set_cons_zero, List.set_cons_succ, i64_w, i32_w]; rfl) ?_
                          refine pure_ (i := 9) (N := some 46) (v := _) (a' := _) (bs_ 14 842) rfl rfl (any_of HT_.out (by kernel_rfl)) (fun _ _ _ h => h) (Or.inl ⟨by rfl, by intro w'; go_simp; first | with_reducible rfl | rfl⟩) (by simp only [Act.put, List.setIfInBounds_toArray, List.set_cons_zero, List.set_cons_succ, i64_w, i32_w]; rfl) ?_
                          refine take_ (i := 2) (N := some 39) (v := ?_) (a' := ?_) (bs_ 14 846) rfl rfl (take_ofW HT_.out HW_.out (by kernel_rfl)) (fun _ _ _ h => h) (Or.inl ⟨by rfl, ?_⟩) hHeld ?_ ?_
                          rotate_left
                          · rintro w' ⟨s0, s1, s2, s3, s4⟩
                            go_simp
                            (first | with_reducible rfl | rfl)
                          rotate_left
                          · simp only [Act.put, List.setIfInBounds_toArray, List.set_cons_zero, List.set_cons_succ, i64_w, i32_w]
                            rfl
                          refine pure_ (i := 4) (N := some 41) (v := _) (a' := _) (bs_ 14 862) rfl rfl (any_of HT_.out (by kernel_rfl)) (fun _ _ _ h => h) (Or.inl ⟨by rfl, by intro w'; go_simp; first | with_reducible rfl | rfl⟩) (by simp only [Act.put, List.setIfInBounds_toArray, List.set_cons_zero, List.set_cons_succ, i64_w, i32_w]; rfl) ?_
                          refine take_ (i := 7) (N := some 44) (v := ?_) (a' := ?_) (bs_ 14 990) rfl rfl (take_ofW HT_.out HW_.out (by kernel_rfl)) (fun _ _ _ h => h) (Or.inl ⟨by rfl, ?_⟩) hHeld ?_ ?_
                          rotate_left
                          · rintro w' ⟨s0, s1, s2, s3, s4⟩
                            go_simp
                            (first | with_reducible rfl | rfl)
                          rotate_left
                          · simp only [Act.put, List.setIfInBounds_toArray, List.set_cons_zero, List.set_cons_succ, i64_w, i32_w]
                            rfl
                          refine pure_ (i := 10) (N := some 47) (v := _) (a' := _) (bs_ 14 2014) rfl rfl (any_of HT_.out (by kernel_rfl)) (fun _ _ _ h => h) (Or.inl ⟨by rfl, by intro w'; go_simp; first | with_reducible rfl | rfl⟩) (by simp only [Act.put, List.setIfInBounds_toArray, List.set_cons_zero, List.set_cons_succ, i64_w, i32_w]; rfl) ?_
                          refine one_ (i := 0) (N := some 37) (bs_ 14 2015) rfl rfl (one_of HT_.out (by kernel_rfl)) (by decide) (fun K hK => ?_)
                          refine Kd.N_lit_step k25 _ 25 ?hg (N' := 37) ?hd (xs := ([] : List (S25))) (inner := []) (ok := (fun k_ => (w.heap.size ≤ k_) ∧ some k_ ≠ (.slice Ao31 t820.length co31 : Value).ownBlock ∧ some k_ ≠ (.slice Ao32 t823.length co32 : Value).ownBlock ∧ some k_ ≠ (.slice Ao57 y844.length co57 : Value).ownBlock ∧ k_ ≠ gb815 ∧ k_ ≠ gb816 ∧ k_ ≠ gb826)) (okp := (fun k_ => (w.heap.size ≤ k_) ∧ some k_ ≠ (.slice Ao31 t820.length co31 : Value).ownBlock ∧ some k_ ≠ (.slice Ao32 t823.length co32 : Value).ownBlock ∧ some k_ ≠ (.slice Ao57 y844.length co57 : Value).ownBlock ∧ k_ ≠ gb815 ∧ k_ ≠ gb816 ∧ k_ ≠ gb826)) ?hr ?hp (fun _ hk => hk) ((show ∀ k_, w60.heap.size ≤ k_ → (fun k_ => (w.heap.size ≤ k_) ∧ some k_ ≠ (.slice Ao31 t820.length co31 : Value).ownBlock ∧ some k_ ≠ (.slice Ao32 t823.length co32 : Value).ownBlock ∧ some k_ ≠ (.slice Ao57 y844.length co57 : Value).ownBlock ∧ k_ ≠ gb815 ∧ k_ ≠ gb816 ∧ k_ ≠ gb826) k_ from fun k_ hk => ⟨(Nat.le_trans (below_size (by repeat (first | (with_reducible first | exact HB.out | apply below_alloc | apply pw_below_drewN | apply below_drew1 | refine below_set ?_ GE815.out | refine below_set ?_ GE816.out | refine below_set ?_ GE826.out) | exact HB.out))) hk), Kd.fresh' (Kd.R_lt (by (with_reducible repeat (first | apply Kd.R_alloc | apply Kd.R_drewN | apply Kd.R_drew)); exact HO822.out)) k_ hk, Kd.fresh' (Kd.N_lt (by (with_reducible repeat (first | apply Kd.N_alloc | apply Kd.N_drewN | apply Kd.N_drew)); exact HO825.out)) k_ hk, Kd.fresh' (Kd.R_lt (by (with_reducible repeat (first | apply Kd.R_alloc | apply Kd.R_drewN | apply Kd.R_drew)); exact HO846.out)) k_ hk, Kd.freshB (g := gb815) (o := .cells #[.int .i64 a0_0, .int .i64 a0_1, .string a0_2, .slice A0_3 l0_3.length c0_3, .slice A0_4 l0_4.length c0_4] 25 (0, 0)) (by (with_reducible repeat (first | refine blk_drewN ?_ _ | refine blk_drew ?_ | refine blk_alloc ?_ _)); exact BK815.out) k_ hk, Kd.freshB (g := gb816) (o := .cells #[.int .i64 0, .int .i64 0, .string (⟨#[]⟩ : ByteArray), .slice none 0 0, .slice none 0 0] 25 (0, 0)) (by (with_reducible repeat (first | refine blk_drewN ?_ _ | refine blk_drew ?_ | refine blk_alloc ?_ _)); exact BK816.out) k_ hk, Kd.freshB (g := gb826) (o := .cells #[.int .i64 t817, .int .i64 t818, .string t819, .slice Ao57 y844.length co57, .slice Ao32 t823.length co32] 25 (0, 0)) (by (with_reducible repeat (first | refine blk_drewN ?_ _ | refine blk_drew ?_ | refine blk_alloc ?_ _)); exact BK826.out) k_ hk⟩) _ (Nat.le_refl _)) (Below.refl _ _) (Nat.le_refl _) (by simp) ?_; (case hd => rfl); (case hg => rfl); (case hr => first | (go_simp; done) | (go_simp; rfl)); (case hp => exact (Reps.none _ _))
                          intro v848 w63 ho64 hb hg_ hnew_
                          clear hg_ hnew_
                          (first | rw [← Ny847.out] at ho64 | (simp only [Int.reduceToNat] at ho64; rw [← Ny847.out] at ho64))
                          have n0_ := Aside0.mk (Kd.R_below (by (with_reducible repeat (first | apply Kd.R_alloc | apply Kd.R_drewN | apply Kd.R_drew)); exact HO822.out) hb)
                          have n1_ := Aside0.mk (Kd.N_elder' (by (with_reducible repeat (first | apply Kd.N_alloc | apply Kd.N_drewN | apply Kd.N_drew)); exact HO825.out) (Kd.N_base ho64) hb)
                          have n2_ := Aside0.mk (Kd.V_elder' (by (with_reducible repeat (first | apply Kd.V_alloc | apply Kd.V_drewN | apply Kd.V_drew)); exact HO835.out) (Kd.N_base ho64) hb)
                          have n3_ := Aside0.mk (Kd.V_elder' (by (with_reducible repeat (first | apply Kd.V_alloc | apply Kd.V_drewN | apply Kd.V_drew)); exact HO843.out) (Kd.N_base ho64) hb)
                          have n4_ := Aside0.mk (Kd.R_below (by (with_reducible repeat (first | apply Kd.R_alloc | apply Kd.R_drewN | apply Kd.R_drew)); exact HO846.out) hb)
                          have n5_ := Aside0.mk (Kd.V_elder' (by (with_reducible repeat (first | apply Kd.V_alloc | apply Kd.V_drewN | apply Kd.V_drew)); exact HO854.out) (Kd.N_base ho64) hb)
                          have n6_ := Aside0.mk (Kd.V_elder' (by (with_reducible repeat (first | apply Kd.V_alloc | apply Kd.V_drewN | apply Kd.V_drew)); exact HO862.out) (Kd.N_base ho64) hb)
                          have n7_ := Aside0.mk (Kd.N_lower ho64 (below_size (by repeat (first | (with_reducible first | exact HB.out | apply below_alloc | apply pw_below_drewN | apply below_drew1 | refine below_set ?_ GE815.out | refine below_set ?_ GE816.out | refine below_set ?_ GE826.out) | exact HB.out))))
                          have n8_ := Aside0.mk (blk_below (g := gb815) (o := .cells #[.int .i64 a0_0, .int .i64 a0_1, .string a0_2, .slice A0_3 l0_3.length c0_3, .slice A0_4 l0_4.length c0_4] 25 (0, 0)) (by (with_reducible repeat (first | refine blk_drewN ?_ _ | refine blk_drew ?_ | refine blk_alloc ?_ _)); exact BK815.out) hb)
                          have n9_ := Aside0.mk (blk_below (g := gb816) (o := .cells #[.int .i64 0, .int .i64 0, .string (⟨#[]⟩ : ByteArray), .slice none 0 0, .slice none 0 0] 25 (0, 0)) (by (with_reducible repeat (first | refine blk_drewN ?_ _ | refine blk_drew ?_ | refine blk_alloc ?_ _)); exact BK816.out) hb)
                          have n10_ := Aside0.mk (blk_below (g := gb826) (o := .cells #[.int .i64 t817, .int .i64 t818, .string t819, .slice Ao57 y844.length co57, .slice Ao32 t823.length co32] 25 (0, 0)) (by (with_reducible repeat (first | refine blk_drewN ?_ _ | refine blk_drew ?_ | refine blk_alloc ?_ _)); exact BK826.out) hb)
                          have n11_ := Aside0.mk (below_step (by repeat (first | (with_reducible first | exact HB.out | apply below_alloc | apply pw_below_drewN | apply below_drew1 | refine below_set ?_ GE815.out | refine below_set ?_ GE816.out | refine below_set ?_ GE826.out) | exact HB.out)) hb)
                          clear HO822
                          clear HO825
                          clear HO835
                          clear HO843
                          clear HO846
                          clear HO854
                          clear HO862
                          clear BK815
                          clear BK816
                          clear BK826
                          clear HB
                          have HO822 := n0_
                          have HO825 := n1_
                          have HO835 := n2_
                          have HO843 := n3_
                          have HO846 := n4_
                          have HO854 := n5_
                          have HO862 := n6_
                          have HO849 := n7_
                          have BK815 := n8_
                          have BK816 := n9_
                          have BK826 := n10_
                          have HB := n11_
                          clear n0_ n1_ n2_ n3_ n4_ n5_ n6_ n7_ n8_ n9_ n10_ n11_
                          clear hb ho64
                          refine hK.out _ _ ⟨(blk_cell BK826.out 0).trans rfl, (blk_cell BK826.out 1).trans rfl, (blk_cell BK826.out 2).trans rfl, (blk_cell BK826.out 3).trans rfl, (blk_cell BK826.out 4).trans rfl⟩ (fun hHeld => ?_)
                          clear hK K
                          refine norm_ (a' := ?_) ?_ ?_
                          rotate_left
                          · show Act.put _ (some 37) _ = _
                            simp only [Act.put, List.setIfInBounds_toArray, List.set_cons_zero, List.set_cons_succ, i64_w, i32_w]
                            rfl
                          refine one_ (i := 5) (N := some 42) (bs_ 14 2047) rfl rfl (one_of HT_.out (by kernel_rfl)) (by decide) (fun K hK => ?_)
                          refine Kd.N_append_rows_step k25 (w0 := w) w.heap.size (by rfl) (.tmp 37) (.tmp 41) 23 25 (.agg #[(.int .i64 0), (.int .i64 0), (.string ⟨#[]⟩), (.slice none 0 0), (.slice none 0 0)]) 80 rfl Try.underlying23 info25 rfl (by decide) (by omega) v848 y847 y850 _ _ _ (fun k_ => (w.heap.size ≤ k_) ∧ some k_ ≠ (.slice Ao31 t820.length co31 : Value).ownBlock ∧ some k_ ≠ (.slice Ao57 y844.length co57 : Value).ownBlock ∧ k_ ≠ gb815 ∧ k_ ≠ gb816 ∧ k_ ≠ gb826) (fun k_ => ((fun k_ => (w.heap.size ≤ k_) ∧ some k_ ≠ (.slice Ao31 t820.length co31 : Value).ownBlock ∧ some k_ ≠ (.slice Ao57 y844.length co57 : Value).ownBlock ∧ k_ ≠ gb815 ∧ k_ ≠ gb816 ∧ k_ ≠ gb826)) k_ ∧ some k_ ≠ (v848 : Value).ownBlock) rfl rfl ?aO ?aR (fun _ hk => hk) ?aF ?aB ?aS ?aL ?_
                          (case aR => exact (by skip; exact Kd.V_F (Kd.V_mono (ok' := (fun k_ => ((fun k_ => (w.heap.size ≤ k_) ∧ some k_ ≠ (.slice Ao31 t820.length co31 : Value).ownBlock ∧ some k_ ≠ (.slice Ao57 y844.length co57 : Value).ownBlock ∧ k_ ≠ gb815 ∧ k_ ≠ gb816 ∧ k_ ≠ gb826)) k_ ∧ some k_ ≠ (v848 : Value).ownBlock)) (HO854.out) (fun k_ hk => ⟨⟨hk.1.1, ⟨hk.1.2.1, ⟨hk.1.2.2.1, ⟨hk.1.2.2.2.1, ⟨hk.1.2.2.2.2.1, hk.1.2.2.2.2.2⟩⟩⟩⟩⟩, hk.2⟩))))
                          (case aB => exact (by repeat (first | (with_reducible first | exact HB.out | apply below_alloc | apply pw_below_drewN | apply below_drew1 | refine below_set ?_ GE815.out | refine below_set ?_ GE816.out | refine below_set ?_ GE826.out) | exact HB.out)))
                          (case aF => exact (fun k_ hk => ⟨(Nat.le_trans (below_size (by repeat (first | (with_reducible first | exact HB.out | apply below_alloc | apply pw_below_drewN | apply below_drew1 | refine below_set ?_ GE815.out | refine below_set ?_ GE816.out | refine below_set ?_ GE826.out) | exact HB.out))) hk), Kd.fresh' (Kd.R_lt (by (with_reducible repeat (first | apply Kd.R_alloc | apply Kd.R_drewN | apply Kd.R_drew)); exact HO822.out)) k_ hk, Kd.fresh' (Kd.R_lt (by (with_reducible repeat (first | apply Kd.R_alloc | apply Kd.R_drewN | apply Kd.R_drew)); exact HO846.out)) k_ hk, Kd.freshB (g := gb815) (o := .cells #[.int .i64 a0_0, .int .i64 a0_1, .string a0_2, .slice A0_3 l0_3.length c0_3, .slice A0_4 l0_4.length c0_4] 25 (0, 0)) (by (with_reducible repeat (first | refine blk_drewN ?_ _ | refine blk_drew ?_ | refine blk_alloc ?_ _)); exact BK815.out) k_ hk, Kd.freshB (g := gb816) (o := .cells #[.int .i64 0, .int .i64 0, .string (⟨#[]⟩ : ByteArray), .slice none 0 0, .slice none 0 0] 25 (0, 0)) (by (with_reducible repeat (first | refine blk_drewN ?_ _ | refine blk_drew ?_ | refine blk_alloc ?_ _)); exact BK816.out) k_ hk, Kd.freshB (g := gb826) (o := .cells #[.int .i64 t817, .int .i64 t818, .string t819, .slice Ao57 y844.length co57, .slice Ao32 t823.length co32] 25 (0, 0)) (by (with_reducible repeat (first | refine blk_drewN ?_ _ | refine blk_drew ?_ | refine blk_alloc ?_ _)); exact BK826.out) k_ hk⟩))
                          (case aO => exact (by (with_reducible repeat (first | apply Kd.N_alloc | apply Kd.N_drewN | apply Kd.N_drew)); exact Kd.N_mono HO849.out (fun _ hk => ⟨hk.1, ⟨hk.2.1, ⟨hk.2.2.2.1, ⟨hk.2.2.2.2.1, ⟨hk.2.2.2.2.2.1, hk.2.2.2.2.2.2⟩⟩⟩⟩⟩)))
                          (case aS => exact (below_size (by repeat (first | (with_reducible first | exact HB.out | apply below_alloc | apply pw_below_drewN | apply below_drew1 | refine below_set ?_ GE815.out | refine below_set ?_ GE816.out | refine below_set ?_ GE826.out) | exact HB.out))))
                          (case aL => have := LMc46.out; omega)
                          intro v856 w65 ho hb hg hat
                          rw [← Ny855.out] at ho
                          have n0_ := Aside0.mk (blk_grown (g := gb815) (o := .cells #[.int .i64 a0_0, .int .i64 a0_1, .string a0_2, .slice A0_3 l0_3.length c0_3, .slice A0_4 l0_4.length c0_4] 25 (0, 0)) (by (with_reducible repeat (first | refine blk_drewN ?_ _ | refine blk_drew ?_ | refine blk_alloc ?_ _)); exact BK815.out) hg (Kd.N_away HO849.out (fun _ hk => hk.2.2.2.2.1)))
                          have n1_ := Aside0.mk (blk_grown (g := gb816) (o := .cells #[.int .i64 0, .int .i64 0, .string (⟨#[]⟩ : ByteArray), .slice none 0 0, .slice none 0 0] 25 (0, 0)) (by (with_reducible repeat (first | refine blk_drewN ?_ _ | refine blk_drew ?_ | refine blk_alloc ?_ _)); exact BK816.out) hg (Kd.N_away HO849.out (fun _ hk => hk.2.2.2.2.2.1)))
                          have n2_ := Aside0.mk (Kd.R_over' (by (with_reducible repeat (first | apply Kd.R_alloc | apply Kd.R_drewN | apply Kd.R_drew)); exact HO822.out) (Kd.N_typed (by (with_reducible repeat (first | apply Kd.N_alloc | apply Kd.N_drewN | apply Kd.N_drew)); exact HO849.out)) (by decide) hg)
                          have n3_ := Aside0.mk (Kd.N_afterv (ok := (fun k_ => (w.heap.size ≤ k_) ∧ some k_ ≠ (.slice Ao31 t820.length co31 : Value).ownBlock ∧ some k_ ≠ (.slice Ao57 y844.length co57 : Value).ownBlock ∧ k_ ≠ gb815 ∧ k_ ≠ gb816 ∧ k_ ≠ gb826)) (by (with_reducible repeat (first | apply Kd.N_alloc | apply Kd.N_drewN | apply Kd.N_drew)); exact HO825.out) hg hat)
                          have n4_ := Aside0.mk (blk_grown (g := gb826) (o := .cells #[.int .i64 t817, .int .i64 t818, .string t819, .slice Ao57 y844.length co57, .slice Ao32 t823.length co32] 25 (0, 0)) (by (with_reducible repeat (first | refine blk_drewN ?_ _ | refine blk_drew ?_ | refine blk_alloc ?_ _)); exact BK826.out) hg (Kd.N_away HO849.out (fun _ hk => hk.2.2.2.2.2.2)))
                          have n5_ := Aside0.mk (Kd.V_afterv (ok := (fun k_ => (w.heap.size ≤ k_) ∧ some k_ ≠ (.slice Ao32 t823.length co32 : Value).ownBlock ∧ some k_ ≠ (.slice Ao57 y844.length co57 : Value).ownBlock ∧ k_ ≠ gb815 ∧ k_ ≠ gb816 ∧ k_ ≠ gb826)) (by (with_reducible repeat (first | apply Kd.V_alloc | apply Kd.V_drewN | apply Kd.V_drew)); exact HO835.out) hg hat)
                          have n6_ := Aside0.mk (Kd.V_afterv (ok := (fun k_ => (w.heap.size ≤ k_) ∧ some k_ ≠ (.slice Ao32 t823.length co32 : Value).ownBlock ∧ some k_ ≠ (.slice Ao57 y844.length co57 : Value).ownBlock ∧ k_ ≠ gb815 ∧ k_ ≠ gb816 ∧ k_ ≠ gb826)) (by (with_reducible repeat (first | apply Kd.V_alloc | apply Kd.V_drewN | apply Kd.V_drew)); exact HO843.out) hg hat)
                          have n7_ := Aside0.mk (Kd.R_over' (by (with_reducible repeat (first | apply Kd.R_alloc | apply Kd.R_drewN | apply Kd.R_drew)); exact HO846.out) (Kd.N_typed (by (with_reducible repeat (first | apply Kd.N_alloc | apply Kd.N_drewN | apply Kd.N_drew)); exact HO849.out)) (by decide) hg)
                          have n8_ := Aside0.mk (Kd.V_afterv (ok := (fun k_ => (w.heap.size ≤ k_) ∧ some k_ ≠ (.slice Ao31 t820.length co31 : Value).ownBlock ∧ some k_ ≠ (.slice Ao57 y844.length co57 : Value).ownBlock ∧ k_ ≠ gb815 ∧ k_ ≠ gb816 ∧ k_ ≠ gb826)) (by (with_reducible repeat (first | apply Kd.V_alloc | apply Kd.V_drewN | apply Kd.V_drew)); exact HO854.out) hg hat)
                          have n9_ := Aside0.mk (Kd.V_afterv (ok := (fun k_ => (w.heap.size ≤ k_) ∧ some k_ ≠ (.slice Ao31 t820.length co31 : Value).ownBlock ∧ some k_ ≠ (.slice Ao57 y844.length co57 : Value).ownBlock ∧ k_ ≠ gb815 ∧ k_ ≠ gb816 ∧ k_ ≠ gb826)) (by (with_reducible repeat (first | apply Kd.V_alloc | apply Kd.V_drewN | apply Kd.V_drew)); exact HO862.out) hg hat)
                          have n10_ := Aside0.mk (hb)
                          have n11_ := Aside0.mk (ho)
                          clear BK815
                          clear BK816
                          clear HO822
                          clear HO825
                          clear BK826
                          clear HO835
                          clear HO843
                          clear HO846
                          clear HO854
                          clear HO862
                          clear HB
                          clear HO849
                          have BK815 := n0_
                          have BK816 := n1_
                          have HO822 := n2_
                          have HO825 := n3_
                          have BK826 := n4_
                          have HO835 := n5_
                          have HO843 := n6_
                          have HO846 := n7_
                          have HO854 := n8_
                          have HO862 := n9_
                          have HB := n10_
                          have HO857 := n11_
                          clear n0_ n1_ n2_ n3_ n4_ n5_ n6_ n7_ n8_ n9_ n10_ n11_
                          clear ho hb hg hat
                          refine hK.out _ _ ⟨(blk_cell BK826.out 0).trans rfl, (blk_cell BK826.out 1).trans rfl, (blk_cell BK826.out 2).trans rfl, (blk_cell BK826.out 3).trans rfl, (blk_cell BK826.out 4).trans rfl⟩ (fun hHeld => ?_)
                          clear hK K
                          refine norm_ (a' := ?_) ?_ ?_
                          rotate_left
                          · show Act.put _ (some 42) _ = _
                            simp only [Act.put, List.setIfInBounds_toArray, List.set_cons_zero, List.set_cons_succ, i64_w, i32_w]
                            rfl
                          refine one_ (i := 11) (N := some 48) (bs_ 14 4095) rfl rfl (one_of HT_.out (by kernel_rfl)) (by decide) (fun K hK => ?_)
                          refine Kd.N_append_rows_step k25 (w0 := w) w.heap.size (by rfl) (.tmp 42) (.tmp 47) 23 25 (.agg #[(.int .i64 0), (.int .i64 0), (.string ⟨#[]⟩), (.slice none 0 0), (.slice none 0 0)]) 80 rfl Try.underlying23 info25 rfl (by decide) (by omega) v856 y855 y858 _ _ _ (fun k_ => (w.heap.size ≤ k_) ∧ some k_ ≠ (.slice Ao31 t820.length co31 : Value).ownBlock ∧ some k_ ≠ (.slice Ao57 y844.length co57 : Value).ownBlock ∧ k_ ≠ gb815 ∧ k_ ≠ gb816 ∧ k_ ≠ gb826) (fun k_ => ((fun k_ => (w.heap.size ≤ k_) ∧ some k_ ≠ (.slice Ao31 t820.length co31 : Value).ownBlock ∧ some k_ ≠ (.slice Ao57 y844.length co57 : Value).ownBlock ∧ k_ ≠ gb815 ∧ k_ ≠ gb816 ∧ k_ ≠ gb826)) k_ ∧ some k_ ≠ (v856 : Value).ownBlock) rfl rfl ?aO ?aR (fun _ hk => hk) ?aF ?aB ?aS ?aL ?_
                          (case aR => exact (by skip; exact Kd.V_F (Kd.V_mono (ok' := (fun k_ => ((fun k_ => (w.heap.size ≤ k_) ∧ some k_ ≠ (.slice Ao31 t820.length co31 : Value).ownBlock ∧ some k_ ≠ (.slice Ao57 y844.length co57 : Value).ownBlock ∧ k_ ≠ gb815 ∧ k_ ≠ gb816 ∧ k_ ≠ gb826)) k_ ∧ some k_ ≠ (v856 : Value).ownBlock)) (HO862.out) (fun k_ hk => ⟨⟨hk.1.1, ⟨hk.1.2.1, ⟨hk.1.2.2.1, ⟨hk.1.2.2.2.1, ⟨hk.1.2.2.2.2.1, hk.1.2.2.2.2.2⟩⟩⟩⟩⟩, hk.2⟩))))
                          (case aB => exact (by repeat (first | (with_reducible first | exact HB.out | apply below_alloc | apply pw_below_drewN | apply below_drew1 | refine below_set ?_ GE815.out | refine below_set ?_ GE816.out | refine below_set ?_ GE826.out) | exact HB.out)))
                          (case aF => exact (fun k_ hk => ⟨(Nat.le_trans (below_size (by repeat (first | (with_reducible first | exact HB.out | apply below_alloc | apply pw_below_drewN | apply below_drew1 | refine below_set ?_ GE815.out | refine below_set ?_ GE816.out | refine below_set ?_ GE826.out) | exact HB.out))) hk), Kd.fresh' (Kd.R_lt (by (with_reducible repeat (first | apply Kd.R_alloc | apply Kd.R_drewN | apply Kd.R_drew)); exact HO822.out)) k_ hk, Kd.fresh' (Kd.R_lt (by (with_reducible repeat (first | apply Kd.R_alloc | apply Kd.R_drewN | apply Kd.R_drew)); exact HO846.out)) k_ hk, Kd.freshB (g := gb815) (o := .cells #[.int .i64 a0_0, .int .i64 a0_1, .string a0_2, .slice A0_3 l0_3.length c0_3, .slice A0_4 l0_4.length c0_4] 25 (0, 0)) (by (with_reducible repeat (first | refine blk_drewN ?_ _ | refine blk_drew ?_ | refine blk_alloc ?_ _)); exact BK815.out) k_ hk, Kd.freshB (g := gb816) (o := .cells #[.int .i64 0, .int .i64 0, .string (⟨#[]⟩ : ByteArray), .slice none 0 0, .slice none 0 0] 25 (0, 0)) (by (with_reducible repeat (first | refine blk_drewN ?_ _ | refine blk_drew ?_ | refine blk_alloc ?_ _)); exact BK816.out) k_ hk, Kd.freshB (g := gb826) (o := .cells #[.int .i64 t817, .int .i64 t818, .string t819, .slice Ao57 y844.length co57, .slice Ao32 t823.length co32] 25 (0, 0)) (by (with_reducible repeat (first | refine blk_drewN ?_ _ | refine blk_drew ?_ | refine blk_alloc ?_ _)); exact BK826.out) k_ hk⟩))
                          (case aO => exact (by (with_reducible repeat (first | apply Kd.N_alloc | apply Kd.N_drewN | apply Kd.N_drew)); exact HO857.out))
                          (case aS => exact (below_size (by repeat (first | (with_reducible first | exact HB.out | apply below_alloc | apply pw_below_drewN | apply below_drew1 | refine below_set ?_ GE815.out | refine below_set ?_ GE816.out | refine below_set ?_ GE826.out) | exact HB.out))))
                          (case aL => have := LMc49.out; omega)
                          intro v864 w66 ho hb hg hat
                          rw [← Ny863.out] at ho
                          have n0_ := Aside0.mk (blk_grown (g := gb815) (o := .cells #[.int .i64 a0_0, .int .i64 a0_1, .string a0_2, .slice A0_3 l0_3.length c0_3, .slice A0_4 l0_4.length c0_4] 25 (0, 0)) (by (with_reducible repeat (first | refine blk_drewN ?_ _ | refine blk_drew ?_ | refine blk_alloc ?_ _)); exact BK815.out) hg (Kd.N_away HO857.out (fun _ hk => hk.2.2.2.1)))
                          have n1_ := Aside0.mk (blk_grown (g := gb816) (o := .cells #[.int .i64 0, .int .i64 0, .string (⟨#[]⟩ : ByteArray), .slice none 0 0, .slice none 0 0] 25 (0, 0)) (by (with_reducible repeat (first | refine blk_drewN ?_ _ | refine blk_drew ?_ | refine blk_alloc ?_ _)); exact BK816.out) hg (Kd.N_away HO857.out (fun _ hk => hk.2.2.2.2.1)))
                          have n2_ := Aside0.mk (Kd.R_over' (by (with_reducible repeat (first | apply Kd.R_alloc | apply Kd.R_drewN | apply Kd.R_drew)); exact HO822.out) (Kd.N_typed (by (with_reducible repeat (first | apply Kd.N_alloc | apply Kd.N_drewN | apply Kd.N_drew)); exact HO857.out)) (by decide) hg)
                          have n3_ := Aside0.mk (Kd.N_afterv (ok := (fun k_ => (w.heap.size ≤ k_) ∧ some k_ ≠ (.slice Ao31 t820.length co31 : Value).ownBlock ∧ some k_ ≠ (.slice Ao57 y844.length co57 : Value).ownBlock ∧ k_ ≠ gb815 ∧ k_ ≠ gb816 ∧ k_ ≠ gb826)) (by (with_reducible repeat (first | apply Kd.N_alloc | apply Kd.N_drewN | apply Kd.N_drew)); exact HO825.out) hg hat)
                          have n4_ := Aside0.mk (blk_grown (g := gb826) (o := .cells #[.int .i64 t817, .int .i64 t818, .string t819, .slice Ao57 y844.length co57, .slice Ao32 t823.length co32] 25 (0, 0)) (by (with_reducible repeat (first | refine blk_drewN ?_ _ | refine blk_drew ?_ | refine blk_alloc ?_ _)); exact BK826.out) hg (Kd.N_away HO857.out (fun _ hk => hk.2.2.2.2.2)))
                          have n5_ := Aside0.mk (Kd.V_afterv (ok := (fun k_ => (w.heap.size ≤ k_) ∧ some k_ ≠ (.slice Ao32 t823.length co32 : Value).ownBlock ∧ some k_ ≠ (.slice Ao57 y844.length co57 : Value).ownBlock ∧ k_ ≠ gb815 ∧ k_ ≠ gb816 ∧ k_ ≠ gb826)) (by (with_reducible repeat (first | apply Kd.V_alloc | apply Kd.V_drewN | apply Kd.V_drew)); exact HO835.out) hg hat)
                          have n6_ := Aside0.mk (Kd.V_afterv (ok := (fun k_ => (w.heap.size ≤ k_) ∧ some k_ ≠ (.slice Ao32 t823.length co32 : Value).ownBlock ∧ some k_ ≠ (.slice Ao57 y844.length co57 : Value).ownBlock ∧ k_ ≠ gb815 ∧ k_ ≠ gb816 ∧ k_ ≠ gb826)) (by (with_reducible repeat (first | apply Kd.V_alloc | apply Kd.V_drewN | apply Kd.V_drew)); exact HO843.out) hg hat)
                          have n7_ := Aside0.mk (Kd.R_over' (by (with_reducible repeat (first | apply Kd.R_alloc | apply Kd.R_drewN | apply Kd.R_drew)); exact HO846.out) (Kd.N_typed (by (with_reducible repeat (first | apply Kd.N_alloc | apply Kd.N_drewN | apply Kd.N_drew)); exact HO857.out)) (by decide) hg)
                          have n8_ := Aside0.mk (Kd.V_afterv (ok := (fun k_ => (w.heap.size ≤ k_) ∧ some k_ ≠ (.slice Ao31 t820.length co31 : Value).ownBlock ∧ some k_ ≠ (.slice Ao57 y844.length co57 : Value).ownBlock ∧ k_ ≠ gb815 ∧ k_ ≠ gb816 ∧ k_ ≠ gb826)) (by (with_reducible repeat (first | apply Kd.V_alloc | apply Kd.V_drewN | apply Kd.V_drew)); exact HO854.out) hg hat)
                          have n9_ := Aside0.mk (Kd.V_afterv (ok := (fun k_ => (w.heap.size ≤ k_) ∧ some k_ ≠ (.slice Ao31 t820.length co31 : Value).ownBlock ∧ some k_ ≠ (.slice Ao57 y844.length co57 : Value).ownBlock ∧ k_ ≠ gb815 ∧ k_ ≠ gb816 ∧ k_ ≠ gb826)) (by (with_reducible repeat (first | apply Kd.V_alloc | apply Kd.V_drewN | apply Kd.V_drew)); exact HO862.out) hg hat)
                          have n10_ := Aside0.mk (hb)
                          have n11_ := Aside0.mk (ho)
                          clear BK815
                          clear BK816
                          clear HO822
                          clear HO825
                          clear BK826
                          clear HO835
                          clear HO843
                          clear HO846
                          clear HO854
                          clear HO862
                          clear HB
                          clear HO857
                          have BK815 := n0_
                          have BK816 := n1_
                          have HO822 := n2_
                          have HO825 := n3_
                          have BK826 := n4_
                          have HO835 := n5_
                          have HO843 := n6_
                          have HO846 := n7_
                          have HO854 := n8_
                          have HO862 := n9_
                          have HB := n10_
                          have HO865 := n11_
                          clear n0_ n1_ n2_ n3_ n4_ n5_ n6_ n7_ n8_ n9_ n10_ n11_
                          clear ho hb hg hat
                          obtain ⟨Ao67, co67, eo67⟩ := Kd.N_slice HO865.out
                          (first | subst eo67 | (injection eo67 with f1_ f2_ f3_; have f4_ := f1_.symm; have f5_ := f3_.symm; clear f1_ f2_ f3_; subst f4_; subst f5_))
                          refine hK.out _ _ ⟨(blk_cell BK826.out 0).trans rfl, (blk_cell BK826.out 1).trans rfl, (blk_cell BK826.out 2).trans rfl, (blk_cell BK826.out 3).trans rfl, (blk_cell BK826.out 4).trans rfl⟩ (fun hHeld => ?_)
                          clear hK K
                          refine norm_ (a' := ?_) ?_ ?_
                          rotate_left
                          · show Act.put _ (some 48) _ = _
                            simp only [Act.put, List.setIfInBounds_toArray, List.set_cons_zero, List.set_cons_succ, i64_w, i32_w]
                            rfl
                          refine pure_ (i := 12) (N := some 49) (v := _) (a' := _) (bs_ 14 8191) rfl rfl (any_of HT_.out (by kernel_rfl)) (fun _ _ _ h => h) (Or.inl ⟨by rfl, by intro w'; go_simp; first | with_reducible rfl | rfl⟩) (by simp only [Act.put, List.setIfInBounds_toArray, List.set_cons_zero, List.set_cons_succ, i64_w, i32_w]; rfl) ?_
                          refine last_ (i := 13) (N := none) (bs_ 14 16383) rfl rfl (one_of HT_.out (by kernel_rfl)) (by decide) (fun K hK => ?_)
                          have hs68 : w66.cell? ⟨gb826, 4, none⟩ = some (.slice Ao32 t823.length co32) := (blk_cell BK826.out 4).trans rfl
                          have hfs68 := blk_frozen BK826.out 4
                          have hns68_0 := NB815_826.out
                          have hns68_1 := NB816_826.out
                          have hms68_0 := NB826_815.out
                          have hms68_1 := NB826_816.out
                          refine skip_ (w1 := ?_) (by rfl) rfl ?_ ?_
                          rotate_left
                          · go_simp
                            rfl
                          refine hK.out _ _ ?_
                          clear hK K
                          refine done_ (done_of HT_.out (by kernel_rfl)) ?_
                          have hnb69 := NB826_815.out
                          have hnc69 := NB815_826.out
                          have hnb70 := NB826_816.out
                          have hnc70 := NB816_826.out
                          have hcz71_0 : w66.cell? ⟨gb826, 0, none⟩ = some (.int .i64 t817) := (blk_cell BK826.out 0).trans rfl
                          have hcz71_1 : w66.cell? ⟨gb826, 1, none⟩ = some (.int .i64 t818) := (blk_cell BK826.out 1).trans rfl
                          have hcz71_2 : w66.cell? ⟨gb826, 2, none⟩ = some (.string t819) := (blk_cell BK826.out 2).trans rfl
                          have hcz71_3 : w66.cell? ⟨gb826, 3, none⟩ = some (.slice Ao57 y844.length co57) := (blk_cell BK826.out 3).trans rfl
                          have hcz71_4 : w66.cell? ⟨gb826, 4, none⟩ = some (.slice Ao32 t823.length co32) := (blk_cell BK826.out 4).trans rfl
                          have hfz71_0 := blk_frozen BK826.out 0
                          have hfz71_1 := blk_frozen BK826.out 1
                          have hfz71_2 := blk_frozen BK826.out 2
                          have hfz71_3 := blk_frozen BK826.out 3
                          have hfz71_4 := blk_frozen BK826.out 4
                          have hnb72 := NB816_815.out
                          have hnc72 := NB815_816.out
                          have hcz73_0 : w66.cell? ⟨gb816, 0, none⟩ = some (.int .i64 0) := (blk_cell BK816.out 0).trans rfl
                          have hcz73_1 : w66.cell? ⟨gb816, 1, none⟩ = some (.int .i64 0) := (blk_cell BK816.out 1).trans rfl
                          have hcz73_2 : w66.cell? ⟨gb816, 2, none⟩ = some (.string (⟨#[]⟩ : ByteArray)) := (blk_cell BK816.out 2).trans rfl
                          have hcz73_3 : w66.cell? ⟨gb816, 3, none⟩ = some (.slice none 0 0) := (blk_cell BK816.out 3).trans rfl
                          have hcz73_4 : w66.cell? ⟨gb816, 4, none⟩ = some (.slice none 0 0) := (blk_cell BK816.out 4).trans rfl
                          have hfz73_0 := blk_frozen BK816.out 0
                          have hfz73_1 := blk_frozen BK816.out 1
                          have hfz73_2 := blk_frozen BK816.out 2
                          have hfz73_3 := blk_frozen BK816.out 3
                          have hfz73_4 := blk_frozen BK816.out 4
                          try go_wp2
                          refine bodyPost_ret (results_cell_row rfl _ _ gb816 25 #[.int .i64 t817, .int .i64 t818, .string t819, .slice Ao57 y844.length co57, .slice Ao67 y863.length co67] (0, 0) _ rfl (by (with_reducible repeat (first | refine blk_drewN ?_ _ | refine blk_drew ?_ | refine blk_alloc ?_ _)); refine blk_put (cs := #[.int .i64 t817, .int .i64 t818, .string t819, .slice Ao57 y844.length co57, .slice none 0 0]) ?_ 4 _ rfl; (with_reducible repeat (first | refine blk_drewN ?_ _ | refine blk_drew ?_ | refine blk_alloc ?_ _)); refine blk_put (cs := #[.int .i64 t817, .int .i64 t818, .string t819, .slice none 0 0, .slice none 0 0]) ?_ 3 _ rfl; (with_reducible repeat (first | refine blk_drewN ?_ _ | refine blk_drew ?_ | refine blk_alloc ?_ _)); refine blk_put (cs := #[.int .i64 t817, .int .i64 t818, .string (⟨#[]⟩ : ByteArray), .slice none 0 0, .slice none 0 0]) ?_ 2 _ rfl; (with_reducible repeat (first | refine blk_drewN ?_ _ | refine blk_drew ?_ | refine blk_alloc ?_ _)); refine blk_put (cs := #[.int .i64 t817, .int .i64 0, .string (⟨#[]⟩ : ByteArray), .slice none 0 0, .slice none 0 0]) ?_ 1 _ rfl; (with_reducible repeat (first | refine blk_drewN ?_ _ | refine blk_drew ?_ | refine blk_alloc ?_ _)); refine blk_put (cs := #[.int .i64 0, .int .i64 0, .string (⟨#[]⟩ : ByteArray), .slice none 0 0, .slice none 0 0]) ?_ 0 _ rfl; (with_reducible repeat (first | refine blk_drewN ?_ _ | refine blk_drew ?_ | refine blk_alloc ?_ _)); refine blk_far ?_ NB816_826.out _; (with_reducible repeat (first | refine blk_drewN ?_ _ | refine blk_drew ?_ | refine blk_alloc ?_ _)); exact BK816.out) Try.underlying25 rfl (by kernel_rfl)) rfl ?_
                          exact ⟨_, _, by first | rfl | (simp [errW_none, errW_some] <;> rfl) | (simp only [← hji40]; first | rfl | (simp [errW_none, errW_some] <;> rfl)) | (simp [*, errW_none, errW_some] <;> rfl), by (with_reducible repeat (first | apply Kd.R_alloc | apply Kd.R_drewN | apply Kd.R_drew)); exact Kd.R_mono (Kd.R_far (p := ⟨gb816, 4, none⟩) (Kd.R_far (p := ⟨gb816, 3, none⟩) (Kd.R_far (p := ⟨gb816, 2, none⟩) (Kd.R_far (p := ⟨gb816, 1, none⟩) (Kd.R_far (p := ⟨gb816, 0, none⟩) (Kd.R_far (p := ⟨gb826, 4, none⟩) (Kd.R_types (Kd.R_types HO846.out BK826.out (by decide)) BK816.out (by decide)) (fun _ hk => hk.1.2) (.slice Ao67 y863.length co67)) (fun _ hk => hk.2) (.int .i64 t817)) (fun _ hk => hk.2) (.int .i64 t818)) (fun _ hk => hk.2) (.string t819)) (fun _ hk => hk.2) (.slice Ao57 y844.length co57)) (fun _ hk => hk.2) (.slice Ao67 y863.length co67)) (fun _ hk => hk.1.1.1), by (with_reducible repeat (first | apply Kd.N_alloc | apply Kd.N_drewN | apply Kd.N_drew)); exact Kd.N_mono (Kd.N_far (p := ⟨gb816, 4, none⟩) (Kd.N_far (p := ⟨gb816, 3, none⟩) (Kd.N_far (p := ⟨gb816, 2, none⟩) (Kd.N_far (p := ⟨gb816, 1, none⟩) (Kd.N_far (p := ⟨gb816, 0, none⟩) (Kd.N_far (p := ⟨gb826, 4, none⟩) (Kd.N_mono (Kd.N_mono HO865.out (fun k_ hk => (⟨hk, hk.2.2.2.2.2⟩ : _ ∧ k_ ≠ gb826))) (fun k_ hk => (⟨hk, hk.1.2.2.2.2.1⟩ : _ ∧ k_ ≠ gb816))) (fun _ hk => hk.1.2) (.slice Ao67 y863.length co67)) (fun _ hk => hk.2) (.int .i64 t817)) (fun _ hk => hk.2) (.int .i64 t818)) (fun _ hk => hk.2) (.string t819)) (fun _ hk => hk.2) (.slice Ao57 y844.length co57)) (fun _ hk => hk.2) (.slice Ao67 y863.length co67)) (fun _ hk => ⟨hk.1.1.1, hk.1.1.2.2.1⟩), by repeat (first | (with_reducible first | exact HB.out | apply below_alloc | apply pw_below_drewN | apply below_drew1 | refine below_set ?_ GE815.out | refine below_set ?_ GE816.out | refine below_set ?_ GE826.out) | exact HB.out)⟩
                        · rw [if_neg c49] at H
                          exact absurd H (by simp)
                      · rw [if_neg c48] at H
                        exact absurd H (by simp)
                    · rw [if_neg c46] at H
                      exact absurd H (by simp)
                  · rw [if_neg c45] at H
                    exact absurd H (by simp)
                · rw [if_neg c43] at H
                  exact absurd H (by simp)
              · rw [if_neg c42] at H
                exact absurd H (by simp)
            · rw [if_neg c41] at H
              exact absurd H (by simp)
          · rw [if_neg c39] at H
            exact absurd H (by simp)
        · rw [if_neg c38] at H
          exact absurd H (by simp)
      · rw [if_neg c37] at H
        exact absurd H (by simp)
    · rw [if_neg c36] at H
      have c36b0 : ((l0_3.length : Int) == (l0_4.length : Int)) = false := beq_eq_false_iff_ne.mpr c36
      have c36b1 : ((l0_3.length : Int) != (l0_4.length : Int)) = true := bne_iff_ne.mpr c36
      have c36b2 : (l0_3.length == l0_4.length) = false := by first | simpa using c36 | (simp at c36 ⊢; omega)
      (first | rw [c36b0] | rw [c36b1] | rw [c36b2] | (simp only [i64_w, i32_w]; rw [c36b0]) | skip)
      simp only [Option.some.injEq, Prod.mk.injEq] at H
      obtain ⟨rfl, rfl, rfl, rfl, rfl⟩ := H
      have hnb74 := NB826_815.out
      have hnc74 := NB815_826.out
      have hnb75 := NB826_816.out
      have hnc75 := NB816_826.out
      have hcz76_0 : w34.cell? ⟨gb826, 0, none⟩ = some (.int .i64 t817) := (blk_cell BK826.out 0).trans rfl
      have hcz76_1 : w34.cell? ⟨gb826, 1, none⟩ = some (.int .i64 t818) := (blk_cell BK826.out 1).trans rfl
      have hcz76_2 : w34.cell? ⟨gb826, 2, none⟩ = some (.string t819) := (blk_cell BK826.out 2).trans rfl
      have hcz76_3 : w34.cell? ⟨gb826, 3, none⟩ = some (.slice Ao31 t820.length co31) := (blk_cell BK826.out 3).trans rfl
      have hcz76_4 : w34.cell? ⟨gb826, 4, none⟩ = some (.slice Ao32 t823.length co32) := (blk_cell BK826.out 4).trans rfl
      have hfz76_0 := blk_frozen BK826.out 0
      have hfz76_1 := blk_frozen BK826.out 1
      have hfz76_2 := blk_frozen BK826.out 2
      have hfz76_3 := blk_frozen BK826.out 3
      have hfz76_4 := blk_frozen BK826.out 4
      have hnb77 := NB816_815.out
      have hnc77 := NB815_816.out
      have hcz78_0 : w34.cell? ⟨gb816, 0, none⟩ = some (.int .i64 0) := (blk_cell BK816.out 0).trans rfl
      have hcz78_1 : w34.cell? ⟨gb816, 1, none⟩ = some (.int .i64 0) := (blk_cell BK816.out 1).trans rfl
      have hcz78_2 : w34.cell? ⟨gb816, 2, none⟩ = some (.string (⟨#[]⟩ : ByteArray)) := (blk_cell BK816.out 2).trans rfl
      have hcz78_3 : w34.cell? ⟨gb816, 3, none⟩ = some (.slice none 0 0) := (blk_cell BK816.out 3).trans rfl
      have hcz78_4 : w34.cell? ⟨gb816, 4, none⟩ = some (.slice none 0 0) := (blk_cell BK816.out 4).trans rfl
      have hfz78_0 := blk_frozen BK816.out 0
      have hfz78_1 := blk_frozen BK816.out 1
      have hfz78_2 := blk_frozen BK816.out 2
      have hfz78_3 := blk_frozen BK816.out 3
      have hfz78_4 := blk_frozen BK816.out 4
      go_wp2
      refine bodyPost_ret (results_cell_row rfl _ _ gb816 25 #[.int .i64 t817, .int .i64 t818, .string t819, .slice Ao31 t820.length co31, .slice Ao32 t823.length co32] (0, 0) _ rfl (by (with_reducible repeat (first | refine blk_drewN ?_ _ | refine blk_drew ?_ | refine blk_alloc ?_ _)); refine blk_put (cs := #[.int .i64 t817, .int .i64 t818, .string t819, .slice Ao31 t820.length co31, .slice none 0 0]) ?_ 4 _ rfl; (with_reducible repeat (first | refine blk_drewN ?_ _ | refine blk_drew ?_ | refine blk_alloc ?_ _)); refine blk_put (cs := #[.int .i64 t817, .int .i64 t818, .string t819, .slice none 0 0, .slice none 0 0]) ?_ 3 _ rfl; (with_reducible repeat (first | refine blk_drewN ?_ _ | refine blk_drew ?_ | refine blk_alloc ?_ _)); refine blk_put (cs := #[.int .i64 t817, .int .i64 t818, .string (⟨#[]⟩ : ByteArray), .slice none 0 0, .slice none 0 0]) ?_ 2 _ rfl; (with_reducible repeat (first | refine blk_drewN ?_ _ | refine blk_drew ?_ | refine blk_alloc ?_ _)); refine blk_put (cs := #[.int .i64 t817, .int .i64 0, .string (⟨#[]⟩ : ByteArray), .slice none 0 0, .slice none 0 0]) ?_ 1 _ rfl; (with_reducible repeat (first | refine blk_drewN ?_ _ | refine blk_drew ?_ | refine blk_alloc ?_ _)); refine blk_put (cs := #[.int .i64 0, .int .i64 0, .string (⟨#[]⟩ : ByteArray), .slice none 0 0, .slice none 0 0]) ?_ 0 _ rfl; (with_reducible repeat (first | refine blk_drewN ?_ _ | refine blk_drew ?_ | refine blk_alloc ?_ _)); exact BK816.out) Try.underlying25 rfl (by kernel_rfl)) rfl ?_
      exact ⟨_, _, by first | rfl | (simp [errW_none, errW_some] <;> rfl) | (simp [*, errW_none, errW_some] <;> rfl), by (with_reducible repeat (first | apply Kd.R_alloc | apply Kd.R_drewN | apply Kd.R_drew)); exact Kd.R_mono (Kd.R_far (p := ⟨gb816, 4, none⟩) (Kd.R_far (p := ⟨gb816, 3, none⟩) (Kd.R_far (p := ⟨gb816, 2, none⟩) (Kd.R_far (p := ⟨gb816, 1, none⟩) (Kd.R_far (p := ⟨gb816, 0, none⟩) (Kd.R_types HO822.out BK816.out (by decide)) (fun _ hk => hk.2) (.int .i64 t817)) (fun _ hk => hk.2) (.int .i64 t818)) (fun _ hk => hk.2) (.string t819)) (fun _ hk => hk.2) (.slice Ao31 t820.length co31)) (fun _ hk => hk.2) (.slice Ao32 t823.length co32)) (fun _ hk => hk.1.1), by (with_reducible repeat (first | apply Kd.N_alloc | apply Kd.N_drewN | apply Kd.N_drew)); exact Kd.N_mono (Kd.N_far (p := ⟨gb816, 4, none⟩) (Kd.N_far (p := ⟨gb816, 3, none⟩) (Kd.N_far (p := ⟨gb816, 2, none⟩) (Kd.N_far (p := ⟨gb816, 1, none⟩) (Kd.N_far (p := ⟨gb816, 0, none⟩) (Kd.N_mono HO825.out (fun k_ hk => (⟨hk, hk.1.2.2.2⟩ : _ ∧ k_ ≠ gb816))) (fun _ hk => hk.2) (.int .i64 t817)) (fun _ hk => hk.2) (.int .i64 t818)) (fun _ hk => hk.2) (.string t819)) (fun _ hk => hk.2) (.slice Ao31 t820.length co31)) (fun _ hk => hk.2) (.slice Ao32 t823.length co32)) (fun _ hk => ⟨hk.1.1.1, hk.1.1.2.1⟩), by repeat (first | (with_reducible first | exact HB.out | apply below_alloc | apply pw_below_drewN | apply below_drew1 | refine below_set ?_ GE815.out | refine below_set ?_ GE816.out | refine below_set ?_ GE826.out) | exact HB.out)⟩

end Go.Proofs.Ytnbnpgjgibcmpaa.P
