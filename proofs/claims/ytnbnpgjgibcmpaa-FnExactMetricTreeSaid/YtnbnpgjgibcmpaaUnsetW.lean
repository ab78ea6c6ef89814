/- Unset, walked. (Printed by wip/mkunset.py.) -/
import Derived.Test.YtnbnpgjgibcmpaaAid
import Derived.Test.YtnbnpgjgibcmpaaCopy
import Derived.Test.YtnbnpgjgibcmpaaDelete
import Derived.Test.YtnbnpgjgibcmpaaGet
import Derived.Test.YtnbnpgjgibcmpaaLaw
import Derived.Test.YtnbnpgjgibcmpaaListOf
import Derived.Test.YtnbnpgjgibcmpaaLists
import Derived.Test.YtnbnpgjgibcmpaaMark
import Derived.Test.YtnbnpgjgibcmpaaOwn
import Derived.Test.YtnbnpgjgibcmpaaP_impl_isMap
import Derived.Test.YtnbnpgjgibcmpaaUnset
import Derived.IntWalk
namespace Go.Proofs.Ytnbnpgjgibcmpaa.H
open Go.RowKit Go.Proofs.Ytnbnpgjgibcmpaa.P Go.Proofs.YtnbnpgjgibcmpaaW.PrintWords Go.Proofs.Ytnbnpgjgibcmpaa.M
set_option linter.unusedVariables false
set_option linter.unusedSimpArgs false

theorem flat_erase : ∀ (l : List (List Nat)) (i : Nat), (l.eraseIdx i).flatten.Sublist l.flatten
  | [], i => by simp
  | a :: l, 0 => by rw [List.eraseIdx_zero, List.tail_cons, List.flatten_cons]; exact List.sublist_append_right _ _
  | a :: l, i + 1 => by rw [List.eraseIdx_cons_succ, List.flatten_cons, List.flatten_cons]; exact List.Sublist.append (List.Sublist.refl _) (flat_erase l i)
theorem SRow_at {w : World} {P : Option Addr} {m p : Nat} {xs : List ByteArray} (h : SRow w (.slice P m p) xs) : Kd.string.C w P xs.length xs := by
  obtain ⟨A, c, e, _, hc⟩ := SRow_C h
  injection e with e1 _ _
  rw [e1]
  exact hc
set_option maxHeartbeats 8000000 in
set_option maxRecDepth 100000 in
theorem unset_calls (x : S25) (key : ByteArray) (hc : cntTop x ≤ 1099511627776) (A3 A4 : Option Addr) (c3 c4 : Nat) (w : World) (g3 : Kd.C Kd.string w A3 x.f3.length x.f3) (l3 : x.f3.length ≤ c3) (g4 : k25.C w A4 x.f4.length x.f4) (l4 : x.f4.length ≤ c4) :
    Calls Try.prog 48 #[.agg #[.int .i64 x.f0, .int .i64 x.f1, .string x.f2, .slice A3 x.f3.length c3, .slice A4 x.f4.length c4], .string key] w fun e w' => Made w (unsetV x key) e w' := by
  have hu := Try.underlying25
  have hl3 : x.f3.length ≤ 1099511627776 := by unfold cntTop at hc; omega
  have hl4 : x.f4.length ≤ 1099511627776 := by have := len_cnt x.f4; unfold cntTop at hc; omega
  have G3 := Lib.hid g3
  have G4 := Lib.hid g4
  have HCP := Lib.hid (copy_all x hc)
  obtain ⟨kk, hkk⟩ : ∃ kk, kk = kInt x.f3 key := ⟨_, rfl⟩
  have HKK := Lib.hid hkk
  obtain ⟨bm, hbm⟩ : ∃ bm, bm = (decide (x.f0 = 5) && decide (x.f3.length = x.f4.length)) := ⟨_, rfl⟩
  have HBM := Lib.hid hbm
  clear g3 g4 hkk hc hbm
  unfold Made
  by_cases hm : bm = true
  · by_cases h1 : kk < 0
    · skip
      have d1 : decide (kk < 0) = true := decide_eq_true h1
      have HV : Hid (unsetV x key = x) := by
        show _ = _
        unfold unsetV
        have e := HKK.out
        unfold kInt at e
        cases hq : kAt x.f3 key with
        | none => simp
        | some j => rw [hq] at e; simp only at e; omega
      subst hm
      go_enter Try.func48, Try.ntmps48
      go_wp2_with (first
            | ((with_reducible refine gate_dst (N := 2) rfl ?_); refine box_event rfl (N := 2) rfl (cs := #[.int .i64 x.f0, .int .i64 x.f1, .string x.f2, .slice A3 x.f3.length c3, .slice A4 x.f4.length c4]) (t := 25) (by first | (go_simp; done) | (go_simp; rfl)) ?_; intro gb hgb wa bk hb; have HGB := Lib.hid (Nat.le_of_eq hgb.symm); have BKa := Lib.hid bk; have HBa := Lib.hid hb; clear hgb bk hb)
            | ((with_reducible refine gate_dst (N := 4) rfl ?_); refine box_event rfl (N := 4) rfl (cs := #[.int .i64 0, .int .i64 0, .string ⟨#[]⟩, .slice none 0 0, .slice none 0 0]) (t := 25) (by first | (go_simp; done) | (go_simp; rfl)) ?_; intro gr hgr wb bk hb; have HGR := Lib.hid (Nat.le_trans HBa.out.size (Nat.le_of_eq hgr.symm)); have HNE := Lib.hid (Nat.lt_of_lt_of_le (blk_lt BKa.out) (Nat.le_of_eq hgr.symm)); have RSb := Lib.hid bk; have HBb := Lib.hid (HBa.out.trans (hb.mono HBa.out.size)); have BKb := Lib.hid (blk_below BKa.out hb); obtain ⟨y0, y1, y2, y3, y4⟩ := cells5 BKb.out; clear hgr bk hb BKa HBa)
            | (go_at_call 86; refine (HCP.out _ _ _ _ _ (Kd.C_below G3.out HBb.out) l3 (Kd.C_below G4.out HBb.out) l4).mono ?_; rintro e w1 ⟨v3, v4, fss, rfl, ht, hg, hb⟩; obtain ⟨B3, d3, rfl, m3, n3⟩ := SRow_C ht.1; obtain ⟨B4, d4, rfl, m4, n4⟩ := ORow_C ht.2.1; clear n3 n4; have HT := Lib.hid ht; have HG := Lib.hid hg; have HB1 := Lib.hid (HBb.out.trans (hb.mono HBb.out.size)); have BK1 := Lib.hid (blk_below BKb.out hb); have RS1 := Lib.hid (blk_below RSb.out hb); have HLB := Lib.hid (blk_lt BKb.out); have HLR := Lib.hid (blk_lt RSb.out); obtain ⟨z0, z1, z2, z3, z4⟩ := cells5 BK1.out; obtain ⟨f0, f1, f2, f3, f4⟩ := free5 BK1.out; clear ht hg hb y0 y1 y2 y3 y4 BKb RSb)
            | ((with_reducible refine gate_store (p := 2) rfl ?_); refine store5_event rfl rfl rfl (g := gb) (.int .i64 x.f0) (.int .i64 x.f1) (.string x.f2) (.slice B3 x.f3.length d3) (.slice B4 x.f4.length d4) BK1.out (by first | (go_simp; done) | (go_simp; rfl)) ?_; intro w2 bk hc2; have BK2 := Lib.hid bk; have RS2 := Lib.hid (blk_chg RS1.out hc2 (fun e => Nat.ne_of_lt HNE.out e.symm)); have HT2 := Lib.hid (Top_chg HT.out hc2 (fun k hk e => Nat.not_le.2 HLB.out (e ▸ HG.out k hk))); have HB2 := Lib.hid (below_chg HB1.out HB1.out.size hc2 (fun k e => e ▸ HGB.out)); obtain ⟨y0, y1, y2, y3, y4⟩ := cells5 BK2.out; obtain ⟨q0, q1, q2, q3, q4⟩ := free5 BK2.out; obtain ⟨r0, r1, r2, r3, r4⟩ := cells5 RS2.out; obtain ⟨p0, p1, p2, p3, p4⟩ := free5 RS2.out; clear bk hc2 z0 z1 z2 z3 z4 f0 f1 f2 f3 f4 BK1 RS1 HT HB1)
            | (go_at_call 90; refine (idx_calls _ _ x.f3 key _ (SRow_at HT2.out.1)).mono ?_; rintro e w3 ⟨rfl, rfl⟩; rw [← HKK.out])
            | (go_at_call 96; refine (isMap_calls x (Seen.of_top HT2.out) _ HBM.out).mono ?_; rintro e w3 ⟨rfl, hb⟩; replace BK2 := Lib.hid (blk_below BK2.out hb); replace RS2 := Lib.hid (blk_below RS2.out hb); replace HT2 := Lib.hid (Top_below HT2.out hb); replace HB2 := Lib.hid (HB2.out.trans (hb.mono HB2.out.size)); clear y0 y1 y2 y3 y4 q0 q1 q2 q3 q4 r0 r1 r2 r3 r4 p0 p1 p2 p3 p4; obtain ⟨y0, y1, y2, y3, y4⟩ := cells5 BK2.out; obtain ⟨q0, q1, q2, q3, q4⟩ := free5 BK2.out; obtain ⟨r0, r1, r2, r3, r4⟩ := cells5 RS2.out; obtain ⟨p0, p1, p2, p3, p4⟩ := free5 RS2.out; clear hb))
      have hne := HNE.out
      have hgw := HGR.out
      have hlb := HLB.out
      have hlr := HLR.out
      have hbs := HBb.out.size
      have hfp := HG.out
      rw [HV.out]
      exact bodyPost_ret (v := .agg #[.int .i64 x.f0, .int .i64 x.f1, .string x.f2, .slice B3 x.f3.length d3, .slice B4 x.f4.length d4]) (by simp [results, Try.results48, go_sem, r0, r1, r2, r3, r4, p0, p1, p2, p3, p4]) rfl
        ⟨_, _, fss, rfl, Top_chg (S := fun k => k = gr) HT2.out (((((chg_put _ gr 0 _).trans (chg_put _ gr 1 _)).trans (chg_put _ gr 2 _)).trans (chg_put _ gr 3 _)).trans (chg_put _ gr 4 _)) (fun k hk e => by have := hfp k hk; omega), fun k hk => by have := hfp k hk; omega, ((((HB2.out.setCell (p := ⟨gr, 0, none⟩) hgw _).setCell (p := ⟨gr, 1, none⟩) hgw _).setCell (p := ⟨gr, 2, none⟩) hgw _).setCell (p := ⟨gr, 3, none⟩) hgw _).setCell (p := ⟨gr, 4, none⟩) hgw _⟩

    · skip
      have d1 : decide (kk < 0) = false := decide_eq_false h1
      have h5 : x.f0 = 5 ∧ x.f3.length = x.f4.length := by have e := HBM.out; rw [hm] at e; simpa using e.symm
      obtain ⟨i, hq, ei⟩ : ∃ i : Nat, kAt x.f3 key = some i ∧ kk = i := by
        have e := HKK.out
        unfold kInt at e
        cases hq : kAt x.f3 key with
        | none => rw [hq] at e; simp only at e; omega
        | some j => rw [hq] at e; exact ⟨j, rfl, e⟩
      have hi3 : i < x.f3.length := (kAt_some hq).1
      have HI3 := Lib.hid hi3
      have HI4 : Hid (i < x.f4.length) := by show _ < _; omega
      have HP3 : Hid (0 < x.f3.length) := by show _ < _; omega
      have HP4 : Hid (0 < x.f4.length) := by show _ < _; omega
      have HV : Hid (unsetV x key = ⟨x.f0, x.f1, x.f2, x.f3.eraseIdx i, x.f4.eraseIdx i⟩) := by show _ = _; unfold unsetV; rw [if_pos h5, hq]
      have HWB : Hid (w.heap.size ≤ w.heap.size) := Nat.le_refl _
      have hiw : IntKind.i64.wrap ((i : Int) + 1) = (i : Int) + 1 := by rw [IntWalk.i64_in _ (by omega)]
      subst ei
      subst hm
      clear h5 hq hi3 h1
      go_enter Try.func48, Try.ntmps48
      go_wp2_with (first
      | ((with_reducible refine gate_dst (N := 2) rfl ?_); refine box_event rfl (N := 2) rfl (cs := #[.int .i64 x.f0, .int .i64 x.f1, .string x.f2, .slice A3 x.f3.length c3, .slice A4 x.f4.length c4]) (t := 25) (by first | (go_simp; done) | (go_simp; rfl)) ?_; intro gb hgb wa bk hb; have HGB := Lib.hid (Nat.le_of_eq hgb.symm); have BKa := Lib.hid bk; have HBa := Lib.hid hb; clear hgb bk hb)
      | ((with_reducible refine gate_dst (N := 4) rfl ?_); refine box_event rfl (N := 4) rfl (cs := #[.int .i64 0, .int .i64 0, .string ⟨#[]⟩, .slice none 0 0, .slice none 0 0]) (t := 25) (by first | (go_simp; done) | (go_simp; rfl)) ?_; intro gr hgr wb bk hb; have HGR := Lib.hid (Nat.le_trans HBa.out.size (Nat.le_of_eq hgr.symm)); have HNE := Lib.hid (Nat.lt_of_lt_of_le (blk_lt BKa.out) (Nat.le_of_eq hgr.symm)); have RSb := Lib.hid bk; have HBb := Lib.hid (HBa.out.trans (hb.mono HBa.out.size)); have BKb := Lib.hid (blk_below BKa.out hb); obtain ⟨y0, y1, y2, y3, y4⟩ := cells5 BKb.out; clear hgr bk hb BKa HBa)
      | (go_at_call 86; refine (HCP.out _ _ _ _ _ (Kd.C_below G3.out HBb.out) l3 (Kd.C_below G4.out HBb.out) l4).mono ?_; rintro e w1 ⟨v3, v4, fss, rfl, ht, hg, hb⟩; obtain ⟨g3, d3, rfl⟩ := own_form ht.1 HP3.out; have hf4 := own_form ht.2.1.choose_spec.1 HP4.out; obtain ⟨g4, d4, rfl⟩ := hf4; have HT := Lib.hid ht; have HG := Lib.hid hg; have HB1 := Lib.hid (HBb.out.trans (hb.mono HBb.out.size)); have BK1 := Lib.hid (blk_below BKb.out hb); have RS1 := Lib.hid (blk_below RSb.out hb); have HLB := Lib.hid (blk_lt BKb.out); have HLR := Lib.hid (blk_lt RSb.out); obtain ⟨z0, z1, z2, z3, z4⟩ := cells5 BK1.out; obtain ⟨f0, f1, f2, f3, f4⟩ := free5 BK1.out; clear ht hg hb y0 y1 y2 y3 y4 BKb RSb)
      | ((with_reducible refine gate_store (p := 2) rfl ?_); refine store5_event rfl rfl rfl (g := gb) (.int .i64 x.f0) (.int .i64 x.f1) (.string x.f2) (.slice (some ⟨g3, 0, none⟩) x.f3.length d3) (.slice (some ⟨g4, 0, none⟩) x.f4.length d4) BK1.out (by first | (go_simp; done) | (go_simp; rfl)) ?_; intro w2 bk hc2; have BK2 := Lib.hid bk; have RS2 := Lib.hid (blk_chg RS1.out hc2 (fun e => Nat.ne_of_lt HNE.out e.symm)); have HT2 := Lib.hid (Top_chg HT.out hc2 (fun k hk e => Nat.not_le.2 HLB.out (e ▸ HG.out k hk))); have HB2 := Lib.hid (below_chg HB1.out HB1.out.size hc2 (fun k e => e ▸ HGB.out)); obtain ⟨y0, y1, y2, y3, y4⟩ := cells5 BK2.out; obtain ⟨q0, q1, q2, q3, q4⟩ := free5 BK2.out; obtain ⟨r0, r1, r2, r3, r4⟩ := cells5 RS2.out; obtain ⟨p0, p1, p2, p3, p4⟩ := free5 RS2.out; clear bk hc2 z0 z1 z2 z3 z4 f0 f1 f2 f3 f4 BK1 RS1 HT HB1)
      | (go_at_call 90; refine (idx_calls _ _ x.f3 key _ (SRow_at HT2.out.1)).mono ?_; rintro e w3 ⟨rfl, rfl⟩; rw [← HKK.out])
      | (go_at_call 96; refine (isMap_calls x (Seen.of_top HT2.out) _ HBM.out).mono ?_; rintro e w3 ⟨rfl, hb⟩; replace BK2 := Lib.hid (blk_below BK2.out hb); replace RS2 := Lib.hid (blk_below RS2.out hb); replace HT2 := Lib.hid (Top_below HT2.out hb); replace HB2 := Lib.hid (HB2.out.trans (hb.mono HB2.out.size)); clear y0 y1 y2 y3 y4 q0 q1 q2 q3 q4 r0 r1 r2 r3 r4 p0 p1 p2 p3 p4; obtain ⟨y0, y1, y2, y3, y4⟩ := cells5 BK2.out; obtain ⟨q0, q1, q2, q3, q4⟩ := free5 BK2.out; obtain ⟨r0, r1, r2, r3, r4⟩ := cells5 RS2.out; obtain ⟨p0, p1, p2, p3, p4⟩ := free5 RS2.out; clear hb)
      | (go_at_call 97; refine (delS_row g3 d3 i x.f3 _ HT2.out.1 HI3.out hl3).mono ?_; rintro e w4 ⟨rfl, hs, hc⟩; have HS4 := Lib.hid hs; have hnd := HT2.out.2.2; have HG34 := Lib.hid (fun k (hk : k ∈ (Value.slice (some ⟨g4, 0, none⟩) x.f4.length d4).ownBlock.toList ++ fss.flatten) (e : k = g3) => (List.nodup_append.1 hnd).2.2 g3 (by simp [Value.ownBlock]) k hk e.symm); have HO4 := Lib.hid (ORow_chg hc HT2.out.2.1 (fun k hk => HG34.out k (List.mem_append.2 (.inl (mem_own.2 hk)))) (fun k hk => HG34.out k (List.mem_append.2 (.inr hk)))); have HG3 := Lib.hid (HG.out g3 (by simp [topFp, Value.ownBlock])); have BK4 := Lib.hid (blk_chg BK2.out hc (fun e => by have := HG3.out; have := HLB.out; omega)); have RS4 := Lib.hid (blk_chg RS2.out hc (fun e => by have := HG3.out; have := HLR.out; omega)); have HB4 := Lib.hid (below_chg HB2.out HB2.out.size hc (fun k e => by have := HG3.out; have := HWB.out; have := HBb.out.size; omega)); clear hs hc hnd y0 y1 y2 y3 y4 q0 q1 q2 q3 q4 r0 r1 r2 r3 r4 p0 p1 p2 p3 p4; obtain ⟨y0, y1, y2, y3, y4⟩ := cells5 BK4.out; obtain ⟨q0, q1, q2, q3, q4⟩ := free5 BK4.out)
      | (go_at_call 98; have hst := chg_put w4 gb 3 (.slice (some ⟨g3, 0, none⟩) (x.f3.eraseIdx i).length d3); refine (delN_row g4 d4 i x.f4 fss _ (ORow_chg hst HO4.out (fun k hk e => by have := HG.out k (by simp [topFp, hk]); have := HLB.out; omega) (fun k hk e => by have := HG.out k (by simp only [topFp, List.mem_append]; exact .inr (.inr hk)); have := HLB.out; omega)) (fun k hk e => (List.nodup_append.1 (List.nodup_append.1 HT2.out.2.2).2.1).2.2 g4 (by simp [Value.ownBlock]) k hk e.symm) HI4.out hl4).mono ?_; rintro e w5 ⟨rfl, ho, hc⟩; have HO5 := Lib.hid ho; have HC5 := Lib.hid (hst.mono (S' := fun k => k = gb ∨ k = g4) (fun k _ e => .inl e) |>.trans (hc.mono (fun k _ e => .inr e))); have HG4 := Lib.hid (HG.out g4 (by simp [topFp, Value.ownBlock])); have BK5 := Lib.hid (blk_chg (blk_put BK4.out 3 (.slice (some ⟨g3, 0, none⟩) (x.f3.eraseIdx i).length d3) rfl) hc (fun e => by have := HG4.out; have := HLB.out; omega)); have RS5 := Lib.hid (blk_chg RS4.out HC5.out (fun e => by have := HG4.out; have := HLR.out; have := HNE.out; omega)); have HB5 := Lib.hid (below_chg HB4.out HB4.out.size HC5.out (fun k e => by have := HG4.out; have := HBb.out.size; have := HGB.out; omega)); clear ho hc hst y0 y1 y2 y3 y4 q0 q1 q2 q3 q4; obtain ⟨y0, y1, y2, y3, y4⟩ := cells5 BK5.out; obtain ⟨q0, q1, q2, q3, q4⟩ := free5 BK5.out; obtain ⟨r0, r1, r2, r3, r4⟩ := cells5 RS5.out; obtain ⟨p0, p1, p2, p3, p4⟩ := free5 RS5.out; have hne1 : gb ≠ gr := Nat.ne_of_lt HNE.out; have hne2 : gr ≠ gb := fun e => Nat.ne_of_lt HNE.out e.symm))
      have hgw := HGR.out
      have hgb := HGB.out
      have hne := HNE.out
      have hlb := HLB.out
      have hlr := HLR.out
      have hbs := HBb.out.size
      have hfp := HG.out
      have hg3 := HG3.out
      have hg4 := HG4.out
      have hnd := HT2.out.2.2
      have h34 : g3 ≠ g4 := fun e => (List.nodup_append.1 hnd).2.2 g3 (by simp [Value.ownBlock]) g3 (by simp [Value.ownBlock, e]) rfl
      have hsub : (fss.eraseIdx i).flatten.Sublist fss.flatten := flat_erase fss i
      have htop : Top w5 (.slice (some ⟨g3, 0, none⟩) (x.f3.eraseIdx i).length d3) (.slice (some ⟨g4, 0, none⟩) (x.f4.eraseIdx i).length d4) ⟨x.f0, x.f1, x.f2, x.f3.eraseIdx i, x.f4.eraseIdx i⟩ (fss.eraseIdx i) :=
        ⟨own_chg HS4.out HC5.out (fun k hk e => by simp [Value.ownBlock] at hk; subst hk; rcases e with e | e; (· omega); (· exact h34 e)), HO5.out, hnd.sublist (List.Sublist.append (List.Sublist.refl _) (List.Sublist.append (List.Sublist.refl _) hsub))⟩
      have hfp2 : ∀ k ∈ topFp (.slice (some ⟨g3, 0, none⟩) (x.f3.eraseIdx i).length d3) (.slice (some ⟨g4, 0, none⟩) (x.f4.eraseIdx i).length d4) (fss.eraseIdx i), wb.heap.size ≤ k := fun k hk => hfp k (List.Sublist.subset (List.Sublist.append (List.Sublist.refl _) (List.Sublist.append (List.Sublist.refl _) hsub)) hk)
      rw [HV.out]
      exact bodyPost_ret (v := .agg #[.int .i64 x.f0, .int .i64 x.f1, .string x.f2, .slice (some ⟨g3, 0, none⟩) (x.f3.eraseIdx i).length d3, .slice (some ⟨g4, 0, none⟩) (x.f4.eraseIdx i).length d4]) (by simp [results, Try.results48, go_sem, r0, r1, r2, r3, r4, p0, p1, p2, p3, p4, hne1, hne2]) rfl
        ⟨_, _, _, rfl, Top_chg (S := fun k => k < wb.heap.size) htop ((((((Chg.set w5 ⟨gb, 4, none⟩ _ hlb).trans (Chg.set _ ⟨gr, 0, none⟩ _ hlr)).trans (Chg.set _ ⟨gr, 1, none⟩ _ hlr)).trans (Chg.set _ ⟨gr, 2, none⟩ _ hlr)).trans (Chg.set _ ⟨gr, 3, none⟩ _ hlr)).trans (Chg.set _ ⟨gr, 4, none⟩ _ hlr)) (fun k hk e => by have := hfp2 k hk; omega), fun k hk => by have := hfp2 k hk; omega, (((((HB5.out.setCell (p := ⟨gb, 4, none⟩) hgb _).setCell (p := ⟨gr, 0, none⟩) hgw _).setCell (p := ⟨gr, 1, none⟩) hgw _).setCell (p := ⟨gr, 2, none⟩) hgw _).setCell (p := ⟨gr, 3, none⟩) hgw _).setCell (p := ⟨gr, 4, none⟩) hgw _⟩
  · skip
    have HV : Hid (unsetV x key = x) := by show _ = _; unfold unsetV; rw [if_neg (fun h => hm (by rw [HBM.out, decide_eq_true h.1, decide_eq_true h.2]; rfl))]
    obtain rfl : bm = false := by cases bm <;> simp_all
    go_enter Try.func48, Try.ntmps48
    go_wp2_with (first
          | ((with_reducible refine gate_dst (N := 2) rfl ?_); refine box_event rfl (N := 2) rfl (cs := #[.int .i64 x.f0, .int .i64 x.f1, .string x.f2, .slice A3 x.f3.length c3, .slice A4 x.f4.length c4]) (t := 25) (by first | (go_simp; done) | (go_simp; rfl)) ?_; intro gb hgb wa bk hb; have HGB := Lib.hid (Nat.le_of_eq hgb.symm); have BKa := Lib.hid bk; have HBa := Lib.hid hb; clear hgb bk hb)
          | ((with_reducible refine gate_dst (N := 4) rfl ?_); refine box_event rfl (N := 4) rfl (cs := #[.int .i64 0, .int .i64 0, .string ⟨#[]⟩, .slice none 0 0, .slice none 0 0]) (t := 25) (by first | (go_simp; done) | (go_simp; rfl)) ?_; intro gr hgr wb bk hb; have HGR := Lib.hid (Nat.le_trans HBa.out.size (Nat.le_of_eq hgr.symm)); have HNE := Lib.hid (Nat.lt_of_lt_of_le (blk_lt BKa.out) (Nat.le_of_eq hgr.symm)); have RSb := Lib.hid bk; have HBb := Lib.hid (HBa.out.trans (hb.mono HBa.out.size)); have BKb := Lib.hid (blk_below BKa.out hb); obtain ⟨y0, y1, y2, y3, y4⟩ := cells5 BKb.out; clear hgr bk hb BKa HBa)
          | (go_at_call 86; refine (HCP.out _ _ _ _ _ (Kd.C_below G3.out HBb.out) l3 (Kd.C_below G4.out HBb.out) l4).mono ?_; rintro e w1 ⟨v3, v4, fss, rfl, ht, hg, hb⟩; obtain ⟨B3, d3, rfl, m3, n3⟩ := SRow_C ht.1; obtain ⟨B4, d4, rfl, m4, n4⟩ := ORow_C ht.2.1; clear n3 n4; have HT := Lib.hid ht; have HG := Lib.hid hg; have HB1 := Lib.hid (HBb.out.trans (hb.mono HBb.out.size)); have BK1 := Lib.hid (blk_below BKb.out hb); have RS1 := Lib.hid (blk_below RSb.out hb); have HLB := Lib.hid (blk_lt BKb.out); have HLR := Lib.hid (blk_lt RSb.out); obtain ⟨z0, z1, z2, z3, z4⟩ := cells5 BK1.out; obtain ⟨f0, f1, f2, f3, f4⟩ := free5 BK1.out; clear ht hg hb y0 y1 y2 y3 y4 BKb RSb)
          | ((with_reducible refine gate_store (p := 2) rfl ?_); refine store5_event rfl rfl rfl (g := gb) (.int .i64 x.f0) (.int .i64 x.f1) (.string x.f2) (.slice B3 x.f3.length d3) (.slice B4 x.f4.length d4) BK1.out (by first | (go_simp; done) | (go_simp; rfl)) ?_; intro w2 bk hc2; have BK2 := Lib.hid bk; have RS2 := Lib.hid (blk_chg RS1.out hc2 (fun e => Nat.ne_of_lt HNE.out e.symm)); have HT2 := Lib.hid (Top_chg HT.out hc2 (fun k hk e => Nat.not_le.2 HLB.out (e ▸ HG.out k hk))); have HB2 := Lib.hid (below_chg HB1.out HB1.out.size hc2 (fun k e => e ▸ HGB.out)); obtain ⟨y0, y1, y2, y3, y4⟩ := cells5 BK2.out; obtain ⟨q0, q1, q2, q3, q4⟩ := free5 BK2.out; obtain ⟨r0, r1, r2, r3, r4⟩ := cells5 RS2.out; obtain ⟨p0, p1, p2, p3, p4⟩ := free5 RS2.out; clear bk hc2 z0 z1 z2 z3 z4 f0 f1 f2 f3 f4 BK1 RS1 HT HB1)
          | (go_at_call 90; refine (idx_calls _ _ x.f3 key _ (SRow_at HT2.out.1)).mono ?_; rintro e w3 ⟨rfl, rfl⟩; rw [← HKK.out])
          | (go_at_call 96; refine (isMap_calls x (Seen.of_top HT2.out) _ HBM.out).mono ?_; rintro e w3 ⟨rfl, hb⟩; replace BK2 := Lib.hid (blk_below BK2.out hb); replace RS2 := Lib.hid (blk_below RS2.out hb); replace HT2 := Lib.hid (Top_below HT2.out hb); replace HB2 := Lib.hid (HB2.out.trans (hb.mono HB2.out.size)); clear y0 y1 y2 y3 y4 q0 q1 q2 q3 q4 r0 r1 r2 r3 r4 p0 p1 p2 p3 p4; obtain ⟨y0, y1, y2, y3, y4⟩ := cells5 BK2.out; obtain ⟨q0, q1, q2, q3, q4⟩ := free5 BK2.out; obtain ⟨r0, r1, r2, r3, r4⟩ := cells5 RS2.out; obtain ⟨p0, p1, p2, p3, p4⟩ := free5 RS2.out; clear hb))
    have hne := HNE.out
    have hgw := HGR.out
    have hlb := HLB.out
    have hlr := HLR.out
    have hbs := HBb.out.size
    have hfp := HG.out
    rw [HV.out]
    exact bodyPost_ret (v := .agg #[.int .i64 x.f0, .int .i64 x.f1, .string x.f2, .slice B3 x.f3.length d3, .slice B4 x.f4.length d4]) (by simp [results, Try.results48, go_sem, r0, r1, r2, r3, r4, p0, p1, p2, p3, p4]) rfl
      ⟨_, _, fss, rfl, Top_chg (S := fun k => k = gr) HT2.out (((((chg_put _ gr 0 _).trans (chg_put _ gr 1 _)).trans (chg_put _ gr 2 _)).trans (chg_put _ gr 3 _)).trans (chg_put _ gr 4 _)) (fun k hk e => by have := hfp k hk; omega), fun k hk => by have := hfp k hk; omega, ((((HB2.out.setCell (p := ⟨gr, 0, none⟩) hgw _).setCell (p := ⟨gr, 1, none⟩) hgw _).setCell (p := ⟨gr, 2, none⟩) hgw _).setCell (p := ⟨gr, 3, none⟩) hgw _).setCell (p := ⟨gr, 4, none⟩) hgw _⟩

end Go.Proofs.Ytnbnpgjgibcmpaa.H
