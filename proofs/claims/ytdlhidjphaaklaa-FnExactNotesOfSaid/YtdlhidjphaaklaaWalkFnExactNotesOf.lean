/- The law FnExactNotesOf, walked. (Printed by wip/marklaw3.py.) -/
import Derived.Test.YtdlhidjphaaklaaAid
import Derived.Test.YtdlhidjphaaklaaBase
import Derived.Test.YtdlhidjphaaklaaCnt
import Derived.Test.YtdlhidjphaaklaaCopy
import Derived.Test.YtdlhidjphaaklaaEv
import Derived.Test.YtdlhidjphaaklaaLawN
import Derived.Test.YtdlhidjphaaklaaLists
import Derived.Test.YtdlhidjphaaklaaMake
import Derived.Test.YtdlhidjphaaklaaMark
import Derived.Test.YtdlhidjphaaklaaNotesOf
import Derived.Test.YtdlhidjphaaklaaNotesRow
import Derived.Test.YtdlhidjphaaklaaOwn
import Derived.Test.YtdlhidjphaaklaaRowNote
import Derived.Test.YtdlhidjphaaklaaTok
import Derived.Test.YtdlhidjphaaklaaTokIn
import Derived.Test.YtdlhidjphaaklaaTree
import Derived.Test.YtdlhidjphaaklaaTreeIn
import Derived.Deep.RegionHeld3
namespace Go.Proofs.Ytdlhidjphaaklaa.H
open Go.RowKit Go.Proofs.Ytdlhidjphaaklaa.P Go.Proofs.YtdlhidjphaaklaaW.PrintWords Go.Proofs.YtdlhidjphaaklaaW.PrintLast Go.Proofs.Ytdlhidjphaaklaa.M Go.Proofs.Ytdlhidjphaaklaa.O
set_option linter.unusedVariables false
set_option linter.unusedSimpArgs false
set_option maxHeartbeats 16000000 in
set_option maxRecDepth 100000 in
theorem FnExactNotesOf (x0 : S25) (hg : good25 x0) {A03 A04 : Option Addr} {n03 n04 : Nat} (w : World) (g0_3 : Kd.C Kd.string w A03 x0.f3.length x0.f3) (l0_3 : x0.f3.length ≤ n03) (g0_4 : k25.C w A04 x0.f4.length x0.f4) (l0_4 : x0.f4.length ≤ n04) :
    Calls Try.prog 4 #[.agg #[.int .i64 x0.f0, .int .i64 x0.f1, .string x0.f2, .slice A03 x0.f3.length n03, .slice A04 x0.f4.length n04]] w fun e w' => e = .returned (.bool true) ∧ Below w.heap.size w w' := by
  have hu := Try.underlying33
  have hu2 := Try.underlying25
  have HG := Lib.hid hg
  have R03 := Lib.hid g0_3
  have R04 := Lib.hid g0_4
  have BL := Lib.hid (Below.refl w.heap.size w)
  have T0 : True := trivial
  clear hg g0_3 g0_4
  by_cases hb : szLeft (totT x0) 1048576 < 0
  · have hbt : decide (szLeft (totT x0) 1048576 < 0) = true := decide_eq_true hb
    go_enter Try.func4, Try.ntmps4
    go_wp2_with (first
      | (clear T0; (with_reducible refine gate_dst (N := 1) rfl ?_); refine box_event rfl (N := 1) rfl (cs := #[.int .i64 x0.f0, .int .i64 x0.f1, .string x0.f2, .slice A03 x0.f3.length n03, .slice A04 x0.f4.length n04]) (t := 25) (by first | (go_simp; done) | (go_simp; rfl)) ?_; intro g0 hg w0a bk hb; have GE0 := Lib.hid (Nat.le_trans BL.out.size (Nat.le_of_eq hg.symm)); replace BL := Lib.hid (BL.out.trans (hb.mono BL.out.size)); have BK0 := Lib.hid bk; clear hg bk hb; obtain ⟨c00, c01, c02, c03, c04⟩ := cells5 BK0.out; have T1 : True := trivial)
      | (clear T1; go_at_call 5; refine (szN_calls x0 HG.out 1048576 (by decide) (by decide) (Kd.C_below R03.out BL.out) l0_3 (Kd.C_below R04.out BL.out) l0_4).mono ?_; rintro e w1 ⟨rfl, hb⟩; replace BL := Lib.hid (BL.out.trans (hb.mono BL.out.size)); replace BK0 := Lib.hid (blk_below BK0.out hb); clear c00 c01 c02 c03 c04; obtain ⟨c00, c01, c02, c03, c04⟩ := cells5 BK0.out; clear hb; have T2 : True := trivial))
    go_ret
    exact ⟨rfl, BL.out⟩
  have hbt : decide (szLeft (totT x0) 1048576 < 0) = false := decide_eq_false hb
  have hle := szLeft_neg hb
  have TT0 := Lib.hid (toTree_good x0 HG.out (by omega))
  have hcx := cntTop_toT x0 HG.out
  have htk : totK (toT x0) ≤ 1048576 := by
    obtain ⟨n, hn⟩ := HG.out
    rw [totK_toT n x0 hn]; omega
  obtain ⟨Y0, hY⟩ : ∃ Y, x0.f4.map toT = Y := ⟨_, rfl⟩
  have hX : toT x0 = ⟨x0.f0, x0.f1, x0.f2, x0.f3, Y0⟩ := by rw [toT_eq, hY]
  unfold ToTree at TT0
  rw [hX] at TT0 hcx htk
  obtain ⟨m0, hm⟩ : ∃ m, cntTop (⟨x0.f0, x0.f1, x0.f2, x0.f3, Y0⟩ : S33) = m := ⟨_, rfl⟩
  have hcx1 : cntTop (⟨x0.f0, x0.f1, x0.f2, x0.f3, Y0⟩ : S33) ≤ 1099511627776 := by omega
  have GC := Lib.hid (notesE_impl ⟨x0.f0, x0.f1, x0.f2, x0.f3, Y0⟩ hcx1 htk)
  have SG := Lib.hid (notesE_spec ⟨x0.f0, x0.f1, x0.f2, x0.f3, Y0⟩ hcx1 htk)
  have hzl := notesE_len ⟨x0.f0, x0.f1, x0.f2, x0.f3, Y0⟩ (by omega)
  obtain ⟨Z, hZ⟩ : ∃ Z, (notesE (⟨x0.f0, x0.f1, x0.f2, x0.f3, Y0⟩ : S33)).1 = Z := ⟨_, rfl⟩
  obtain ⟨s2, hS⟩ : ∃ s, (notesE (⟨x0.f0, x0.f1, x0.f2, x0.f3, Y0⟩ : S33)).2 = s := ⟨_, rfl⟩
  unfold RowMade at GC SG
  rw [hZ, hS] at GC SG
  rw [hZ] at hzl
  have hm3 : m0 ≤ 3145728 := by omega
  have HM0 := Lib.hid hm
  have HZL : Hid (Z.length ≤ 1099511627776) := by show _ ≤ _; omega
  have HX0 : Hid (cntTop (⟨x0.f0, x0.f1, x0.f2, x0.f3, Y0⟩ : S33) ≤ 549755813880) := by show cntTop _ ≤ _; omega
  have hm0 : decide ((1 : Int) + (m0 : Nat) < 0) = false := decide_eq_false (by omega)
  have hn0 : decide ((1 : Int) + 2 * (Z.length : Nat) < 0) = false := decide_eq_false (by omega)
  have hs2 : (s2.toList != s2.toList) = false := by simp
  clear hb hle hcx hX hY hm hcx1 htk hzl hZ hS
  go_enter Try.func4, Try.ntmps4
  go_wp2_with (first
      | (clear T0; (with_reducible refine gate_dst (N := 1) rfl ?_); refine box_event rfl (N := 1) rfl (cs := #[.int .i64 x0.f0, .int .i64 x0.f1, .string x0.f2, .slice A03 x0.f3.length n03, .slice A04 x0.f4.length n04]) (t := 25) (by first | (go_simp; done) | (go_simp; rfl)) ?_; intro g0 hg w0a bk hb; have GE0 := Lib.hid (Nat.le_trans BL.out.size (Nat.le_of_eq hg.symm)); replace BL := Lib.hid (BL.out.trans (hb.mono BL.out.size)); have BK0 := Lib.hid bk; clear hg bk hb; obtain ⟨c00, c01, c02, c03, c04⟩ := cells5 BK0.out; have T1 : True := trivial)
      | (clear T1; go_at_call 5; refine (szN_calls x0 HG.out 1048576 (by decide) (by decide) (Kd.C_below R03.out BL.out) l0_3 (Kd.C_below R04.out BL.out) l0_4).mono ?_; rintro e w1 ⟨rfl, hb⟩; replace BL := Lib.hid (BL.out.trans (hb.mono BL.out.size)); replace BK0 := Lib.hid (blk_below BK0.out hb); clear c00 c01 c02 c03 c04; obtain ⟨c00, c01, c02, c03, c04⟩ := cells5 BK0.out; clear hb; have T2 : True := trivial)
      | (clear T2; go_at_call 7; refine (TT0.out _ _ _ _ _ (Kd.C_below R03.out BL.out) l0_3 (Kd.C_below R04.out BL.out) l0_4).mono ?_; rintro e wA ⟨v3A, v4A, gsA, rfl, ht, hf, hb⟩; have hs2 := Seen.of_top ht; obtain ⟨E3A, q3A, E4A, q4A, rfl, rfl, _, _, _, _⟩ := hs2; replace BL := Lib.hid (BL.out.trans (hb.mono BL.out.size)); replace BK0 := Lib.hid (blk_below BK0.out hb); have SNA := Lib.hid (Seen.of_top ht); clear c00 c01 c02 c03 c04; obtain ⟨c00, c01, c02, c03, c04⟩ := cells5 BK0.out; clear hb ht hf; have T3 : True := trivial)
      | (clear T3; go_at_call 11; refine (SG.out _ _ _ SNA.out).mono ?_; rintro e wS ⟨vS, bS, cS, hlo, hhi, rfl, ho, hb⟩; obtain ⟨AS, nS, rfl, _, _⟩ := ho.form; have M0S := Lib.hid (Nat.lt_of_lt_of_le (blk_lt BK0.out) (Nat.le_of_eq hlo)); have MES := Lib.hid (Nat.le_trans BL.out.size (Nat.le_of_eq hlo)); have HSS := Lib.hid (Nat.le_trans (Nat.le_of_eq hlo.symm) (Nat.le_trans hb.size (Nat.le_of_eq hhi))); replace BL := Lib.hid (BL.out.trans (hb.mono BL.out.size)); replace BK0 := Lib.hid (blk_below BK0.out hb); have NTS := Lib.hid ho; have CLS := Lib.hid (Nat.le_of_eq hhi.symm); clear c00 c01 c02 c03 c04; obtain ⟨c00, c01, c02, c03, c04⟩ := cells5 BK0.out; clear SNA; clear hb ho hlo hhi; have T4 : True := trivial)
      | (clear T4; go_at_call 7; refine (TT0.out _ _ _ _ _ (Kd.C_below R03.out BL.out) l0_3 (Kd.C_below R04.out BL.out) l0_4).mono ?_; rintro e wX ⟨v3X, v4X, gsX, rfl, ht, hf, hb⟩; have hs2 := Seen.of_top ht; obtain ⟨E3X, q3X, E4X, q4X, rfl, rfl, _, _, _, _⟩ := hs2; have GEX := Lib.hid (fun k hk => Nat.le_trans BL.out.size (hf k hk)); have D0X := Lib.hid (fun k hk => Nat.lt_of_lt_of_le (blk_lt BK0.out) (hf k hk)); have NSX := Lib.hid (fun (k : Nat) (h1 : bS ≤ k) (h2 : k < cS) hk => Nat.not_le.2 h2 (Nat.le_trans CLS.out (hf k hk))); replace BL := Lib.hid (BL.out.trans (hb.mono BL.out.size)); replace BK0 := Lib.hid (blk_below BK0.out hb); replace NTS := Lib.hid (RowB.below NTS.out hb); replace CLS := Lib.hid (Nat.le_trans CLS.out hb.size); have TPX := Lib.hid ht; clear c00 c01 c02 c03 c04; obtain ⟨c00, c01, c02, c03, c04⟩ := cells5 BK0.out; clear hb ht hf; have T5 : True := trivial)
      | (clear T5; (with_reducible refine gate_dst (N := 6) rfl ?_); refine box_event rfl (N := 6) rfl (cs := #[.int .i64 0, .int .i64 0, .string ⟨#[]⟩, .slice none 0 0, .slice none 0 0]) (t := 33) (by first | (go_simp; done) | (go_simp; rfl)) ?_; intro g6 hg w6a bk hb; have CS6 := Lib.hid (Nat.le_trans CLS.out (Nat.le_of_eq hg.symm)); have GE6 := Lib.hid (Nat.le_trans BL.out.size (Nat.le_of_eq hg.symm)); have L06 := Lib.hid (Nat.lt_of_lt_of_le (blk_lt BK0.out) (Nat.le_of_eq hg.symm)); have UX6 := Lib.hid (fun k hk => Nat.lt_of_lt_of_le (Top_lt TPX.out k hk) (Nat.le_of_eq hg.symm)); replace BL := Lib.hid (BL.out.trans (hb.mono BL.out.size)); replace BK0 := Lib.hid (blk_below BK0.out hb); replace TPX := Lib.hid (Top_below TPX.out hb); replace NTS := Lib.hid (RowB.below NTS.out hb); replace CLS := Lib.hid (Nat.le_trans CLS.out hb.size); have BK6 := Lib.hid bk; clear c00 c01 c02 c03 c04; obtain ⟨c00, c01, c02, c03, c04⟩ := cells5 BK0.out; obtain ⟨z0, z1, z2, z3, z4⟩ := cells5 BK6.out; obtain ⟨f0, f1, f2, f3, f4⟩ := free5 BK6.out; clear hg bk hb; have T6 : True := trivial)
      | (clear T6; (with_reducible refine gate_store (p := 6) rfl ?_); refine store5_event rfl rfl rfl (g := g6) (.int .i64 x0.f0) (.int .i64 x0.f1) (.string x0.f2) (.slice E3X x0.f3.length q3X) (.slice E4X Y0.length q4X) BK6.out (by first | (go_simp; done) | (go_simp; rfl)) ?_; intro w6b bk hc2; replace BL := Lib.hid (below_chg BL.out BL.out.size hc2 (fun k e => e ▸ GE6.out)); replace BK0 := Lib.hid (blk_chg BK0.out hc2 (fun e => Nat.ne_of_lt L06.out e)); replace TPX := Lib.hid (Top_chg TPX.out hc2 (fun k hk e => Nat.ne_of_lt (UX6.out k hk) e)); replace NTS := Lib.hid (RowB.chg NTS.out hc2 (fun k h1 h2 h3 e => Nat.ne_of_lt (Nat.lt_of_lt_of_le h2 CS6.out) e)); replace CLS := Lib.hid (Nat.le_trans CLS.out hc2.size); replace BK6 := Lib.hid bk; clear z0 z1 z2 z3 z4 f0 f1 f2 f3 f4 hc2 bk; clear c00 c01 c02 c03 c04; obtain ⟨c00, c01, c02, c03, c04⟩ := cells5 BK0.out; obtain ⟨c60, c61, c62, c63, c64⟩ := cells5 BK6.out; have T7 : True := trivial)
      | (clear T7; go_at_call 12; refine (GC.out _ _ _ (Seen.of_top TPX.out)).mono ?_; rintro e wG ⟨vG, bG, cG, hlo, hhi, rfl, ho, hb⟩; obtain ⟨AG, nG, rfl, _, _⟩ := ho.form; have M0G := Lib.hid (Nat.lt_of_lt_of_le (blk_lt BK0.out) (Nat.le_of_eq hlo)); have M6G := Lib.hid (Nat.lt_of_lt_of_le (blk_lt BK6.out) (Nat.le_of_eq hlo)); have MEG := Lib.hid (Nat.le_trans BL.out.size (Nat.le_of_eq hlo)); have HSG := Lib.hid (Nat.le_trans (Nat.le_of_eq hlo.symm) (Nat.le_trans hb.size (Nat.le_of_eq hhi))); have NGX := Lib.hid (fun (k : Nat) (h1 : bG ≤ k) (h2 : k < cG) hk => Nat.not_lt.2 (Nat.le_trans (Nat.le_of_eq hlo) h1) (Top_lt TPX.out k hk)); have OSG := Lib.hid (Nat.le_trans CLS.out (Nat.le_of_eq hlo)); replace BL := Lib.hid (BL.out.trans (hb.mono BL.out.size)); replace BK0 := Lib.hid (blk_below BK0.out hb); replace BK6 := Lib.hid (blk_below BK6.out hb); replace TPX := Lib.hid (Top_below TPX.out hb); replace NTS := Lib.hid (RowB.below NTS.out hb); replace CLS := Lib.hid (Nat.le_trans CLS.out hb.size); have NTG := Lib.hid ho; have CLG := Lib.hid (Nat.le_of_eq hhi.symm); clear c00 c01 c02 c03 c04; clear c60 c61 c62 c63 c64; obtain ⟨c00, c01, c02, c03, c04⟩ := cells5 BK0.out; obtain ⟨c60, c61, c62, c63, c64⟩ := cells5 BK6.out; clear hb ho hlo hhi; have T8 : True := trivial)
      | (clear T8; go_at_call 13; refine (eqNotes_calls Z HZL.out NTG.out NTS.out).mono ?_; rintro e w8x ⟨rfl, hb⟩; replace BL := Lib.hid (BL.out.trans (hb.mono BL.out.size)); replace BK0 := Lib.hid (blk_below BK0.out hb); replace BK6 := Lib.hid (blk_below BK6.out hb); replace TPX := Lib.hid (Top_below TPX.out hb); replace NTS := Lib.hid (RowB.below NTS.out hb); replace CLS := Lib.hid (Nat.le_trans CLS.out hb.size); replace NTG := Lib.hid (RowB.below NTG.out hb); replace CLG := Lib.hid (Nat.le_trans CLG.out hb.size); clear c00 c01 c02 c03 c04; clear c60 c61 c62 c63 c64; obtain ⟨c00, c01, c02, c03, c04⟩ := cells5 BK0.out; obtain ⟨c60, c61, c62, c63, c64⟩ := cells5 BK6.out; clear hb; have T9 : True := trivial))
  refine start_ (n := 5) (S := fun W => W.cell? ⟨g6, 0, none⟩ = some (.int .i64 x0.f0) ∧ W.cell? ⟨g6, 1, none⟩ = some (.int .i64 x0.f1) ∧ W.cell? ⟨g6, 2, none⟩ = some (.string x0.f2) ∧ W.cell? ⟨g6, 3, none⟩ = some (.slice E3X x0.f3.length q3X) ∧ W.cell? ⟨g6, 4, none⟩ = some (.slice E4X Y0.length q4X) ∧ W.cell? ⟨g0, 0, none⟩ = some (.int .i64 x0.f0) ∧ W.cell? ⟨g0, 1, none⟩ = some (.int .i64 x0.f1) ∧ W.cell? ⟨g0, 2, none⟩ = some (.string x0.f2) ∧ W.cell? ⟨g0, 3, none⟩ = some (.slice A03 x0.f3.length n03) ∧ W.cell? ⟨g0, 4, none⟩ = some (.slice A04 x0.f4.length n04)) (ds := []) #[false, false, false, false, false] (by kernel_rfl) rfl rfl ⟨c60, c61, c62, c63, c64, c00, c01, c02, c03, c04⟩ (fun hHeld => ?_)
  replace BL := Lib.hid (BL.out.trans ((below_drew (Below.refl _ _)).mono BL.out.size)); replace BK0 := Lib.hid (blk_below BK0.out (below_drew (Below.refl _ _))); replace BK6 := Lib.hid (blk_below BK6.out (below_drew (Below.refl _ _))); replace TPX := Lib.hid (Top_below TPX.out (below_drew (Below.refl _ _))); replace NTS := Lib.hid (RowB.below NTS.out (below_drew (Below.refl _ _))); replace CLS := Lib.hid (Nat.le_trans CLS.out (below_drew (Below.refl 0 _)).size); replace NTG := Lib.hid (RowB.below NTG.out (below_drew (Below.refl _ _))); replace CLG := Lib.hid (Nat.le_trans CLG.out (below_drew (Below.refl 0 _)).size); clear c00 c01 c02 c03 c04; clear c60 c61 c62 c63 c64; obtain ⟨c00, c01, c02, c03, c04⟩ := cells5 BK0.out; obtain ⟨c60, c61, c62, c63, c64⟩ := cells5 BK6.out
  refine take_ (i := 0) (N := some 41) (v := _) (a' := _) (bs_ 5 1) rfl rfl (by kernel_rfl) (fun _ _ _ h => h) (Or.inl ⟨by rfl, by rintro w' ⟨s60, s61, s62, s63, s64, s00, s01, s02, s03, s04⟩; go_simp; first | with_reducible rfl | rfl⟩) hHeld (by simp only [Act.put, List.setIfInBounds_toArray, List.set_cons_zero, List.set_cons_succ]; rfl) ?_
  refine take_ (i := 1) (N := some 42) (v := _) (a' := _) (bs_ 5 3) rfl rfl (by kernel_rfl) (fun _ _ _ h => h) (Or.inl ⟨by rfl, by rintro w' ⟨s60, s61, s62, s63, s64, s00, s01, s02, s03, s04⟩; go_simp; first | with_reducible rfl | rfl⟩) hHeld (by simp only [Act.put, List.setIfInBounds_toArray, List.set_cons_zero, List.set_cons_succ]; rfl) ?_
  refine one_ (i := 2) (N := some 43) (bs_ 5 7) rfl rfl (by kernel_rfl) (by decide) (fun K hK => ?_)
  refine goes_ Try.func7 (by kernel_rfl) rfl #[.agg #[.int .i64 x0.f0, .int .i64 x0.f1, .string x0.f2, .slice A03 x0.f3.length n03, .slice A04 x0.f4.length n04]] (by rfl) rfl rfl (by (try simp only [List.map_toArray, List.map_cons, List.map_nil]); first | done | rfl) ?_
  refine (TT0.out _ _ _ _ _ (Kd.C_below R03.out BL.out) l0_3 (Kd.C_below R04.out BL.out) l0_4).mono ?_
  rintro e wB0 ⟨v3B0, v4B0, gsB0, rfl, ht, hf, hb⟩
  refine ⟨_, rfl, ?_⟩
  have hs2 := Seen.of_top ht; obtain ⟨E3B0, q3B0, E4B0, q4B0, rfl, rfl, _, _, _, _⟩ := hs2; replace BL := Lib.hid (BL.out.trans (hb.mono BL.out.size)); replace BK0 := Lib.hid (blk_below BK0.out hb); replace BK6 := Lib.hid (blk_below BK6.out hb); replace TPX := Lib.hid (Top_below TPX.out hb); replace NTS := Lib.hid (RowB.below NTS.out hb); replace CLS := Lib.hid (Nat.le_trans CLS.out hb.size); replace NTG := Lib.hid (RowB.below NTG.out hb); replace CLG := Lib.hid (Nat.le_trans CLG.out hb.size); have SNB0 := Lib.hid (Seen.of_top ht); have BSB0 := Lib.hid (Below.refl wB0.heap.size wB0); clear c00 c01 c02 c03 c04; clear c60 c61 c62 c63 c64; obtain ⟨c00, c01, c02, c03, c04⟩ := cells5 BK0.out; obtain ⟨c60, c61, c62, c63, c64⟩ := cells5 BK6.out; clear hb ht hf
  refine hK.out _ _ ⟨c60, c61, c62, c63, c64, c00, c01, c02, c03, c04⟩ (fun hHeld => ?_)
  clear hK K
  refine norm_ (a' := ?_) ?_ ?_
  rotate_left
  · show Act.put _ (some 43) _ = _
    simp only [Act.put, List.setIfInBounds_toArray, List.set_cons_zero, List.set_cons_succ]
    rfl
  refine one_ (i := 3) (N := some 44) (bs_ 5 15) rfl rfl (by kernel_rfl) (by decide) (fun K hK => ?_)
  refine goes_ Try.func10 (by kernel_rfl) rfl #[.agg #[.int .i64 x0.f0, .int .i64 x0.f1, .string x0.f2, .slice E3X x0.f3.length q3X, .slice E4X Y0.length q4X], .agg #[.int .i64 x0.f0, .int .i64 x0.f1, .string x0.f2, .slice E3B0 x0.f3.length q3B0, .slice E4B0 Y0.length q4B0]] (by rfl) rfl rfl (by (try simp only [List.map_toArray, List.map_cons, List.map_nil]); first | done | rfl) ?_
  refine (eqN_calls ⟨x0.f0, x0.f1, x0.f2, x0.f3, Y0⟩ HX0.out (Seen.of_top TPX.out) (SNB0.out.below BSB0.out)).mono ?_
  rintro e wB0e ⟨rfl, hb⟩
  refine ⟨_, rfl, ?_⟩
  replace BL := Lib.hid (BL.out.trans (hb.mono BL.out.size)); replace BK0 := Lib.hid (blk_below BK0.out hb); replace BK6 := Lib.hid (blk_below BK6.out hb); replace TPX := Lib.hid (Top_below TPX.out hb); replace NTS := Lib.hid (RowB.below NTS.out hb); replace CLS := Lib.hid (Nat.le_trans CLS.out hb.size); replace NTG := Lib.hid (RowB.below NTG.out hb); replace CLG := Lib.hid (Nat.le_trans CLG.out hb.size); clear SNB0 BSB0; clear c00 c01 c02 c03 c04; clear c60 c61 c62 c63 c64; obtain ⟨c00, c01, c02, c03, c04⟩ := cells5 BK0.out; obtain ⟨c60, c61, c62, c63, c64⟩ := cells5 BK6.out; clear hb
  refine hK.out _ _ ⟨c60, c61, c62, c63, c64, c00, c01, c02, c03, c04⟩ (fun hHeld => ?_)
  clear hK K
  refine norm_ (a' := ?_) ?_ ?_
  rotate_left
  · show Act.put _ (some 44) _ = _
    simp only [Act.put, List.setIfInBounds_toArray, List.set_cons_zero, List.set_cons_succ]
    rfl
  refine pure_ (i := 4) (N := some 45) (v := _) (a' := _) (bs_ 5 31) rfl rfl (by kernel_rfl) (fun _ _ _ h => h) (Or.inl ⟨by rfl, by intro w'; go_simp; first | with_reducible rfl | rfl⟩) (by simp only [Act.put, List.setIfInBounds_toArray, List.set_cons_zero, List.set_cons_succ]; rfl) ?_
  refine done_ (by kernel_rfl) ?_
  all_goals (go_wp2_with (first
      | (clear T9; go_at_call 14; refine (markTop_calls ⟨x0.f0, x0.f1, x0.f2, x0.f3, Y0⟩ m0 HM0.out TPX.out (by omega)).mono ?_; rintro e w9m ⟨xX, rfl, hcn, hmk, htp, hc2⟩; replace BL := Lib.hid (below_chg BL.out BL.out.size hc2 (fun k e => e.elim (GEX.out k) (fun e => Nat.le_trans BL.out.size e))); replace BK0 := Lib.hid (blk_chg BK0.out hc2 (fun e => e.elim (fun e => Nat.lt_irrefl _ (D0X.out _ e)) (fun e => Nat.not_le.2 (blk_lt BK0.out) e))); replace BK6 := Lib.hid (blk_chg BK6.out hc2 (fun e => e.elim (fun e => Nat.lt_irrefl _ (UX6.out _ e)) (fun e => Nat.not_le.2 (blk_lt BK6.out) e))); replace NTS := Lib.hid (RowB.chg NTS.out hc2 (fun k h1 h2 h3 e => e.elim (fun e => NSX.out k h1 h2 e) (fun e => Nat.not_le.2 h3 e))); replace CLS := Lib.hid (Nat.le_trans CLS.out hc2.size); replace NTG := Lib.hid (RowB.chg NTG.out hc2 (fun k h1 h2 h3 e => e.elim (fun e => NGX.out k h1 h2 e) (fun e => Nat.not_le.2 h3 e))); replace CLG := Lib.hid (Nat.le_trans CLG.out hc2.size); replace TPX := Lib.hid htp; have MKX := Lib.hid hmk; have CNX := Lib.hid hcn; clear htp hc2 hmk hcn; clear c00 c01 c02 c03 c04; clear c60 c61 c62 c63 c64; obtain ⟨c00, c01, c02, c03, c04⟩ := cells5 BK0.out; obtain ⟨c60, c61, c62, c63, c64⟩ := cells5 BK6.out; clear TPX MKX CNX; have T10 : True := trivial)
      | (clear T10; go_at_call 13; refine (eqNotes_calls Z HZL.out NTG.out NTS.out).mono ?_; rintro e w10x ⟨rfl, hb⟩; replace BL := Lib.hid (BL.out.trans (hb.mono BL.out.size)); replace BK0 := Lib.hid (blk_below BK0.out hb); replace BK6 := Lib.hid (blk_below BK6.out hb); replace NTS := Lib.hid (RowB.below NTS.out hb); replace CLS := Lib.hid (Nat.le_trans CLS.out hb.size); replace NTG := Lib.hid (RowB.below NTG.out hb); replace CLG := Lib.hid (Nat.le_trans CLG.out hb.size); clear c00 c01 c02 c03 c04; clear c60 c61 c62 c63 c64; obtain ⟨c00, c01, c02, c03, c04⟩ := cells5 BK0.out; obtain ⟨c60, c61, c62, c63, c64⟩ := cells5 BK6.out; clear hb; have T11 : True := trivial)
      | (clear T11; go_at_call 15; refine (markNotes_calls Z HZL.out NTG.out (Nat.le_trans HSG.out CLG.out)).mono ?_; rintro e w11m ⟨rfl, ho, hc2⟩; replace BL := Lib.hid (below_chg BL.out BL.out.size hc2 (fun k e => e.elim (fun e => Nat.le_trans MEG.out e.1) (fun e => Nat.le_trans BL.out.size e))); replace BK0 := Lib.hid (blk_chg BK0.out hc2 (fun e => e.elim (fun e => Nat.not_le.2 M0G.out e.1) (fun e => Nat.not_le.2 (blk_lt BK0.out) e))); replace BK6 := Lib.hid (blk_chg BK6.out hc2 (fun e => e.elim (fun e => Nat.not_le.2 M6G.out e.1) (fun e => Nat.not_le.2 (blk_lt BK6.out) e))); replace NTS := Lib.hid (RowB.chg NTS.out hc2 (fun k h1 h2 h3 e => e.elim (fun e => Nat.not_le.2 h2 (Nat.le_trans OSG.out e.1)) (fun e => Nat.not_le.2 h3 e))); replace CLS := Lib.hid (Nat.le_trans CLS.out hc2.size); replace NTG := Lib.hid ho; replace CLG := Lib.hid (Nat.le_refl w11m.heap.size); clear hc2 ho; clear c00 c01 c02 c03 c04; clear c60 c61 c62 c63 c64; obtain ⟨c00, c01, c02, c03, c04⟩ := cells5 BK0.out; obtain ⟨c60, c61, c62, c63, c64⟩ := cells5 BK6.out; have T12 : True := trivial)
      | (clear T12; go_at_call 16; refine (heldNotes_calls Z.length HZL.out NTG.out).mono ?_; rintro e w12x ⟨rfl, hb⟩; replace BL := Lib.hid (BL.out.trans (hb.mono BL.out.size)); replace BK0 := Lib.hid (blk_below BK0.out hb); replace BK6 := Lib.hid (blk_below BK6.out hb); replace NTS := Lib.hid (RowB.below NTS.out hb); replace CLS := Lib.hid (Nat.le_trans CLS.out hb.size); replace NTG := Lib.hid (RowB.below NTG.out hb); replace CLG := Lib.hid (Nat.le_trans CLG.out hb.size); clear c00 c01 c02 c03 c04; clear c60 c61 c62 c63 c64; obtain ⟨c00, c01, c02, c03, c04⟩ := cells5 BK0.out; obtain ⟨c60, c61, c62, c63, c64⟩ := cells5 BK6.out; clear hb; have T13 : True := trivial)
      | (clear T13; go_at_call 7; refine (TT0.out _ _ _ _ _ (Kd.C_below R03.out BL.out) l0_3 (Kd.C_below R04.out BL.out) l0_4).mono ?_; rintro e wC ⟨v3C, v4C, gsC, rfl, ht, hf, hb⟩; have hs2 := Seen.of_top ht; obtain ⟨E3C, q3C, E4C, q4C, rfl, rfl, _, _, _, _⟩ := hs2; replace BL := Lib.hid (BL.out.trans (hb.mono BL.out.size)); replace BK0 := Lib.hid (blk_below BK0.out hb); replace BK6 := Lib.hid (blk_below BK6.out hb); replace NTS := Lib.hid (RowB.below NTS.out hb); replace CLS := Lib.hid (Nat.le_trans CLS.out hb.size); replace NTG := Lib.hid (RowB.below NTG.out hb); replace CLG := Lib.hid (Nat.le_trans CLG.out hb.size); have SNC := Lib.hid (Seen.of_top ht); clear c00 c01 c02 c03 c04; clear c60 c61 c62 c63 c64; obtain ⟨c00, c01, c02, c03, c04⟩ := cells5 BK0.out; obtain ⟨c60, c61, c62, c63, c64⟩ := cells5 BK6.out; clear hb ht hf; have T14 : True := trivial)
      | (clear T14; go_at_call 12; refine (GC.out _ _ _ SNC.out).mono ?_; rintro e wH ⟨vH, bH, cH, hlo, hhi, rfl, ho, hb⟩; obtain ⟨AH, nH, rfl, _, _⟩ := ho.form; have M0H := Lib.hid (Nat.lt_of_lt_of_le (blk_lt BK0.out) (Nat.le_of_eq hlo)); have M6H := Lib.hid (Nat.lt_of_lt_of_le (blk_lt BK6.out) (Nat.le_of_eq hlo)); have MEH := Lib.hid (Nat.le_trans BL.out.size (Nat.le_of_eq hlo)); have HSH := Lib.hid (Nat.le_trans (Nat.le_of_eq hlo.symm) (Nat.le_trans hb.size (Nat.le_of_eq hhi))); have OSH := Lib.hid (Nat.le_trans CLS.out (Nat.le_of_eq hlo)); have OGH := Lib.hid (Nat.le_trans CLG.out (Nat.le_of_eq hlo)); replace BL := Lib.hid (BL.out.trans (hb.mono BL.out.size)); replace BK0 := Lib.hid (blk_below BK0.out hb); replace BK6 := Lib.hid (blk_below BK6.out hb); replace NTS := Lib.hid (RowB.below NTS.out hb); replace CLS := Lib.hid (Nat.le_trans CLS.out hb.size); replace NTG := Lib.hid (RowB.below NTG.out hb); replace CLG := Lib.hid (Nat.le_trans CLG.out hb.size); have NTH := Lib.hid ho; have CLH := Lib.hid (Nat.le_of_eq hhi.symm); clear c00 c01 c02 c03 c04; clear c60 c61 c62 c63 c64; obtain ⟨c00, c01, c02, c03, c04⟩ := cells5 BK0.out; obtain ⟨c60, c61, c62, c63, c64⟩ := cells5 BK6.out; clear SNC; clear hb ho hlo hhi; have T15 : True := trivial)
      | (clear T15; go_at_call 13; refine (eqNotes_calls Z HZL.out NTH.out NTS.out).mono ?_; rintro e w15x ⟨rfl, hb⟩; replace BL := Lib.hid (BL.out.trans (hb.mono BL.out.size)); replace BK0 := Lib.hid (blk_below BK0.out hb); replace BK6 := Lib.hid (blk_below BK6.out hb); replace NTS := Lib.hid (RowB.below NTS.out hb); replace CLS := Lib.hid (Nat.le_trans CLS.out hb.size); replace NTG := Lib.hid (RowB.below NTG.out hb); replace CLG := Lib.hid (Nat.le_trans CLG.out hb.size); replace NTH := Lib.hid (RowB.below NTH.out hb); replace CLH := Lib.hid (Nat.le_trans CLH.out hb.size); clear c00 c01 c02 c03 c04; clear c60 c61 c62 c63 c64; obtain ⟨c00, c01, c02, c03, c04⟩ := cells5 BK0.out; obtain ⟨c60, c61, c62, c63, c64⟩ := cells5 BK6.out; clear hb; have T16 : True := trivial)
      | (clear T16; go_at_call 16; refine (heldNotes_calls Z.length HZL.out NTG.out).mono ?_; rintro e w16x ⟨rfl, hb⟩; replace BL := Lib.hid (BL.out.trans (hb.mono BL.out.size)); replace BK0 := Lib.hid (blk_below BK0.out hb); replace BK6 := Lib.hid (blk_below BK6.out hb); replace NTS := Lib.hid (RowB.below NTS.out hb); replace CLS := Lib.hid (Nat.le_trans CLS.out hb.size); replace NTG := Lib.hid (RowB.below NTG.out hb); replace CLG := Lib.hid (Nat.le_trans CLG.out hb.size); replace NTH := Lib.hid (RowB.below NTH.out hb); replace CLH := Lib.hid (Nat.le_trans CLH.out hb.size); clear c00 c01 c02 c03 c04; clear c60 c61 c62 c63 c64; obtain ⟨c00, c01, c02, c03, c04⟩ := cells5 BK0.out; obtain ⟨c60, c61, c62, c63, c64⟩ := cells5 BK6.out; clear hb; have T17 : True := trivial)))
  all_goals go_ret
  all_goals exact ⟨rfl, BL.out⟩
end Go.Proofs.Ytdlhidjphaaklaa.H
