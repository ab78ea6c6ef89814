/- Get: where a Key lies, and a copy of what lies there. -/
import Derived.Test.YtdlhidjphaaklaaAid
import Derived.Test.YtdlhidjphaaklaaBase
import Derived.Test.YtdlhidjphaaklaaCopy
import Derived.Test.YtdlhidjphaaklaaLists
import Derived.Test.YtdlhidjphaaklaaMark
import Derived.Test.YtdlhidjphaaklaaOwn
import Derived.Lib.SlicesS
namespace Go.Proofs.Ytdlhidjphaaklaa.H
open Go.RowKit Go.Proofs.Ytdlhidjphaaklaa.P Go.Proofs.YtdlhidjphaaklaaW.PrintWords Go.Proofs.Ytdlhidjphaaklaa.M
set_option linter.unusedVariables false
set_option linter.unusedSimpArgs false

/-- A text is first at a place. -/
def FirstAt (l : List ByteArray) (x : ByteArray) (i : Nat) : Prop := i < l.length ∧ l.getD i ByteArray.empty = x ∧ ∀ j, j < i → l.getD j ByteArray.empty ≠ x
theorem first_or (l : List ByteArray) (x : ByteArray) : (∃ i, FirstAt l x i) ∨ ∀ j, j < l.length → l.getD j ByteArray.empty ≠ x := by
  by_cases h : ∃ i, i < l.length ∧ l.getD i ByteArray.empty = x
  · refine .inl ?_
    obtain ⟨i, hi⟩ := h
    induction i using Nat.strongRecOn with
    | _ i ih =>
      by_cases h2 : ∃ j, j < i ∧ l.getD j ByteArray.empty = x
      · obtain ⟨j, hj, e⟩ := h2
        exact ih j hj ⟨by omega, e⟩
      · exact ⟨i, hi.1, hi.2, fun j hj e => h2 ⟨j, hj, e⟩⟩
  · exact .inr (fun j hj e => h ⟨j, hj, e⟩)
/-- Where a text is first. -/
noncomputable def kAt (l : List ByteArray) (x : ByteArray) : Option Nat := @dite _ (∃ i, FirstAt l x i) (Classical.propDecidable _) (fun h => some h.choose) (fun _ => none)
theorem kAt_some {l : List ByteArray} {x : ByteArray} {i : Nat} (h : kAt l x = some i) : FirstAt l x i := by
  unfold kAt at h
  split at h
  · rename_i h2
    obtain rfl := Option.some.inj h
    exact h2.choose_spec
  · cases h
theorem kAt_none {l : List ByteArray} {x : ByteArray} (h : kAt l x = none) : ∀ j, j < l.length → l.getD j ByteArray.empty ≠ x := by
  unfold kAt at h
  split at h
  · cases h
  · rename_i h2
    exact (first_or l x).resolve_left h2
theorem first_one {l : List ByteArray} {x : ByteArray} {i j : Nat} (h : FirstAt l x i) (k : FirstAt l x j) : i = j := by
  rcases Nat.lt_trichotomy i j with hlt | e | hlt
  · exact absurd h.2.1 (k.2.2 i hlt)
  · exact e
  · exact absurd k.2.1 (h.2.2 j hlt)
theorem kAt_eq {l : List ByteArray} {x : ByteArray} {i : Nat} (h : FirstAt l x i) : kAt l x = some i := by
  cases e : kAt l x with
  | none => exact absurd h.2.1 (kAt_none e i h.1)
  | some j => rw [first_one (kAt_some e) h]
theorem kAt_miss {l : List ByteArray} {x : ByteArray} (h : ∀ j, j < l.length → l.getD j ByteArray.empty ≠ x) : kAt l x = none := by
  cases e : kAt l x with
  | none => rfl
  | some j => exact absurd (kAt_some e).2.1 (h j (kAt_some e).1)
/-- .. as a number. -/
noncomputable def kInt (l : List ByteArray) (x : ByteArray) : Int := match kAt l x with | some i => (i : Int) | none => -1
theorem idx_calls (A : Option Addr) (c : Nat) (l : List ByteArray) (x : ByteArray) (w : World) (hr : Kd.C Kd.string w A l.length l) :
    Calls Try.prog 53 #[.slice A l.length c, .string x] w fun e w' => e = .returned (.int .i64 (kInt l x)) ∧ w' = w := by
  rcases Nat.eq_zero_or_pos l.length with h0 | h0
  · obtain rfl : l = [] := List.eq_nil_of_length_eq_zero h0
    refine (Try.slices_Index_string_empty A c x w).mono ?_
    rintro e w' ⟨rfl, rfl⟩
    have e : kAt [] x = none := kAt_miss (fun j hj => by simp at hj)
    refine ⟨?_, rfl⟩
    unfold kInt
    rw [e]
    rfl
  · obtain ⟨b, off, rfl, hg⟩ := C_cells h0 hr
    refine (Try.slices_Index_string b off l.length c l x w (Nat.le_refl _) hr.2.1 hg).mono ?_
    rintro e w' ⟨rfl, rfl⟩
    refine ⟨?_, rfl⟩
    unfold kInt
    cases e : kAt l x with
    | none => rw [Lib.idxOfS_miss l l.length x (kAt_none e)]
    | some i =>
      have h := kAt_some e
      rw [Lib.idxOfS_hit l l.length i x h.1 (Nat.le_refl _) h.2.1 h.2.2]
def node0 : S33 := ⟨0, 0, ⟨#[]⟩, [], []⟩
/-- What Get finds. -/
noncomputable def getK (x : S33) (key : ByteArray) : Option S33 := if x.f0 = 5 then (kAt x.f3 key).bind fun i => x.f4[i]? else none
noncomputable def getV (x : S33) (key : ByteArray) : S33 := (getK x key).getD node0
theorem below_cell {B : Nat} {w w1 : World} {a : Addr} {v : Value} (hb : Below B w w1) (hB : a.block < B) (h : w.cell? a = some v) : w1.cell? a = some v := (World.cell?_of_block (hb.block _ hB)).trans h
theorem Top_zero (w : World) : Top w (.slice none 0 0) (.slice none 0 0) node0 [] :=
  ⟨World.ownsRow_nil _ _ _ _, ⟨[], World.ownsRow_nil _ _ _ _, rfl, fun i h => absurd h (Nat.not_lt_zero _)⟩, by simp [Value.ownBlock]⟩
set_option maxHeartbeats 8000000 in
set_option maxRecDepth 100000 in
theorem get_calls (x : S33) (key : ByteArray) (hc : cntTop x ≤ 1099511627776) (A3 A4 : Option Addr) (c3 c4 : Nat) (w : World) (g3 : Kd.C Kd.string w A3 x.f3.length x.f3) (l3 : x.f3.length ≤ c3) (g4 : k33.C w A4 x.f4.length x.f4) (l4 : x.f4.length ≤ c4) :
    Calls Try.prog 30 #[.agg #[.int .i64 x.f0, .int .i64 x.f1, .string x.f2, .slice A3 x.f3.length c3, .slice A4 x.f4.length c4], .string key] w fun e w' => ∃ v3 v4 fss, e = .returned (.tuple #[.agg #[.int .i64 (getV x key).f0, .int .i64 (getV x key).f1, .string (getV x key).f2, v3, v4], .bool (getK x key).isSome]) ∧ Top w' v3 v4 (getV x key) fss ∧ (∀ k ∈ topFp v3 v4 fss, w.heap.size ≤ k) ∧ Below w.heap.size w w' := by
  have hu := Try.underlying33
  have G3 := Lib.hid g3
  have G4 := Lib.hid g4
  obtain ⟨kk, hkk⟩ : ∃ kk, kk = kInt x.f3 key := ⟨_, rfl⟩
  have HKK := Lib.hid hkk
  have HC := Lib.hid hc
  clear g3 g4 hkk hc
  by_cases h5 : x.f0 = 5
  · have d5 : decide (x.f0 = 5) = true := decide_eq_true h5
    by_cases h1 : kk < 0
    · have d1 : decide (kk < 0) = true := decide_eq_true h1
      have hv : getK x key = none := by
        unfold getK
        rw [if_pos h5]
        have e := HKK.out
        unfold kInt at e
        cases hq : kAt x.f3 key with
        | none => rfl
        | some j => rw [hq] at e; simp only at e; omega
      go_enter Try.func30, Try.ntmps30
      go_wp2_with (first
        | ((with_reducible refine gate_dst (N := 2) rfl ?_); refine box_event rfl (N := 2) rfl (cs := #[.int .i64 x.f0, .int .i64 x.f1, .string x.f2, .slice A3 x.f3.length c3, .slice A4 x.f4.length c4]) (t := 33) (by first | (go_simp; done) | (go_simp; rfl)) ?_; intro gb hgb wa bk hb; have HGB := Lib.hid hgb; have BKa := Lib.hid bk; have HBa := Lib.hid hb; clear hgb bk hb)
        | ((with_reducible refine gate_dst (N := 4) rfl ?_); refine box_event rfl (N := 4) rfl (cs := #[.int .i64 0, .int .i64 0, .string ⟨#[]⟩, .slice none 0 0, .slice none 0 0]) (t := 33) (by first | (go_simp; done) | (go_simp; rfl)) ?_; intro gr hgr wb bk hb; have HGR := Lib.hid (Nat.le_trans HBa.out.size (Nat.le_of_eq hgr.symm)); have RSb := Lib.hid bk; have HBb := Lib.hid (HBa.out.trans (hb.mono HBa.out.size)); have BKb := Lib.hid (blk_below BKa.out hb); obtain ⟨y0, y1, y2, y3, y4⟩ := cells5 BKb.out; obtain ⟨z0, z1, z2, z3, z4⟩ := cells5 RSb.out; obtain ⟨f0, f1, f2, f3, f4⟩ := free5 RSb.out; clear hgr bk hb)
        | (go_at_call 53; refine (idx_calls _ _ x.f3 key _ (Kd.C_below G3.out HBb.out)).mono ?_; rintro e w1 ⟨rfl, rfl⟩; rw [← HKK.out]))
      have hgw := HGR.out
      exact bodyPost_ret (v := .tuple #[.agg #[.int .i64 0, .int .i64 0, .string ⟨#[]⟩, .slice none 0 0, .slice none 0 0], .bool false]) (by simp [results, Try.results30, go_sem, z0, z1, z2, z3, z4, f0, f1, f2, f3, f4]) rfl
        ⟨_, _, [], by unfold getV; rw [hv]; rfl, by unfold getV; rw [hv]; exact Top_zero _, fun k hk => by simp [topFp, Value.ownBlock] at hk, ((((HBb.out.setCell (p := ⟨gr, 0, none⟩) hgw _).setCell (p := ⟨gr, 1, none⟩) hgw _).setCell (p := ⟨gr, 2, none⟩) hgw _).setCell (p := ⟨gr, 3, none⟩) hgw _).setCell (p := ⟨gr, 4, none⟩) hgw _⟩
    · have d1 : decide (kk < 0) = false := decide_eq_false h1
      by_cases h2 : (x.f4.length : Int) ≤ kk
      · have d2 : decide ((x.f4.length : Int) ≤ kk) = true := decide_eq_true h2
        have hv : getK x key = none := by
          unfold getK
          rw [if_pos h5]
          have e := HKK.out
          unfold kInt at e
          cases hq : kAt x.f3 key with
          | none => rfl
          | some j =>
            rw [hq] at e
            simp only at e
            rw [Option.bind_some, List.getElem?_eq_none (by omega)]
        go_enter Try.func30, Try.ntmps30
        go_wp2_with (first
          | ((with_reducible refine gate_dst (N := 2) rfl ?_); refine box_event rfl (N := 2) rfl (cs := #[.int .i64 x.f0, .int .i64 x.f1, .string x.f2, .slice A3 x.f3.length c3, .slice A4 x.f4.length c4]) (t := 33) (by first | (go_simp; done) | (go_simp; rfl)) ?_; intro gb hgb wa bk hb; have HGB := Lib.hid hgb; have BKa := Lib.hid bk; have HBa := Lib.hid hb; clear hgb bk hb)
          | ((with_reducible refine gate_dst (N := 4) rfl ?_); refine box_event rfl (N := 4) rfl (cs := #[.int .i64 0, .int .i64 0, .string ⟨#[]⟩, .slice none 0 0, .slice none 0 0]) (t := 33) (by first | (go_simp; done) | (go_simp; rfl)) ?_; intro gr hgr wb bk hb; have HGR := Lib.hid (Nat.le_trans HBa.out.size (Nat.le_of_eq hgr.symm)); have RSb := Lib.hid bk; have HBb := Lib.hid (HBa.out.trans (hb.mono HBa.out.size)); have BKb := Lib.hid (blk_below BKa.out hb); obtain ⟨y0, y1, y2, y3, y4⟩ := cells5 BKb.out; obtain ⟨z0, z1, z2, z3, z4⟩ := cells5 RSb.out; obtain ⟨f0, f1, f2, f3, f4⟩ := free5 RSb.out; clear hgr bk hb)
          | (go_at_call 53; refine (idx_calls _ _ x.f3 key _ (Kd.C_below G3.out HBb.out)).mono ?_; rintro e w1 ⟨rfl, rfl⟩; rw [← HKK.out]))
        have hgw := HGR.out
        exact bodyPost_ret (v := .tuple #[.agg #[.int .i64 0, .int .i64 0, .string ⟨#[]⟩, .slice none 0 0, .slice none 0 0], .bool false]) (by simp [results, Try.results30, go_sem, z0, z1, z2, z3, z4, f0, f1, f2, f3, f4]) rfl
          ⟨_, _, [], by unfold getV; rw [hv]; rfl, by unfold getV; rw [hv]; exact Top_zero _, fun k hk => by simp [topFp, Value.ownBlock] at hk, ((((HBb.out.setCell (p := ⟨gr, 0, none⟩) hgw _).setCell (p := ⟨gr, 1, none⟩) hgw _).setCell (p := ⟨gr, 2, none⟩) hgw _).setCell (p := ⟨gr, 3, none⟩) hgw _).setCell (p := ⟨gr, 4, none⟩) hgw _⟩
      · skip
        obtain ⟨i, hi, ei⟩ : ∃ i : Nat, i < x.f4.length ∧ kk = i := ⟨kk.toNat, by omega, by omega⟩
        subst ei
        have d2 : decide ((x.f4.length : Int) ≤ (i : Int)) = false := decide_eq_false h2
        have hv : getK x key = some x.f4[i] := by
          unfold getK
          rw [if_pos h5]
          have e := HKK.out
          unfold kInt at e
          cases hq : kAt x.f3 key with
          | none => rw [hq] at e; simp only at e; omega
          | some j =>
            rw [hq] at e
            simp only at e
            obtain rfl : i = j := by omega
            rw [Option.bind_some, List.getElem?_eq_getElem hi]
        obtain ⟨ad, A3k, c3k, A4k, c4k, ea, x0, x1, x2, x3, x4, l3k, g3k, l4k, g4k⟩ := at_T33 G4.out (i : Int) (by omega) (by omega)
        have er : rd_T33 x.f4 (i : Int) = x.f4[i] := rdT2 x.f4 i hi
        rw [er] at x0 x1 x2 x3 x4 l3k g3k l4k g4k
        rw [Int.toNat_natCast] at x0 x1 x2 x3 x4
        subst ea
        have hcp : ToCopy x.f4[i] := copy_all _ (by
          have h6 := HC.out
          have h7 := mem_le_sum cntK x.f4 x.f4[i] (List.getElem_mem hi)
          have h8 := cntK_eq x.f4[i]
          unfold cntTop at h6 ⊢
          omega)
        have HCP := Lib.hid hcp
        have G3k := Lib.hid g3k
        have G4k := Lib.hid g4k
        have X0 := Lib.hid x0
        have X1 := Lib.hid x1
        have X2 := Lib.hid x2
        have X3 := Lib.hid x3
        have X4 := Lib.hid x4
        clear g3k g4k hcp er x0 x1 x2 x3 x4
        go_enter Try.func30, Try.ntmps30
        go_wp2_with (first
          | ((with_reducible refine gate_dst (N := 2) rfl ?_); refine box_event rfl (N := 2) rfl (cs := #[.int .i64 x.f0, .int .i64 x.f1, .string x.f2, .slice A3 x.f3.length c3, .slice (some ad) x.f4.length c4]) (t := 33) (by first | (go_simp; done) | (go_simp; rfl)) ?_; intro gb hgb wa bk hb; have HGB := Lib.hid hgb; have BKa := Lib.hid bk; have HBa := Lib.hid hb; clear hgb bk hb)
          | ((with_reducible refine gate_dst (N := 4) rfl ?_); refine box_event rfl (N := 4) rfl (cs := #[.int .i64 0, .int .i64 0, .string ⟨#[]⟩, .slice none 0 0, .slice none 0 0]) (t := 33) (by first | (go_simp; done) | (go_simp; rfl)) ?_; intro gr hgr wb bk hb; have HGR := Lib.hid (Nat.le_trans HBa.out.size (Nat.le_of_eq hgr.symm)); have RSb := Lib.hid bk; have HBb := Lib.hid (HBa.out.trans (hb.mono HBa.out.size)); have BKb := Lib.hid (blk_below BKa.out hb); obtain ⟨y0, y1, y2, y3, y4⟩ := cells5 BKb.out; obtain ⟨z0, z1, z2, z3, z4⟩ := cells5 RSb.out; obtain ⟨f0, f1, f2, f3, f4⟩ := free5 RSb.out; clear hgr bk hb)
          | (go_at_call 53; refine (idx_calls _ _ x.f3 key _ (Kd.C_below G3.out HBb.out)).mono ?_; rintro e w1 ⟨rfl, rfl⟩; rw [← HKK.out]; have x0 := below_cell HBb.out (World.block_lt_of_cell? _ _ X0.out) X0.out; have x1 := below_cell HBb.out (World.block_lt_of_cell? _ _ X1.out) X1.out; have x2 := below_cell HBb.out (World.block_lt_of_cell? _ _ X2.out) X2.out; have x3 := below_cell HBb.out (World.block_lt_of_cell? _ _ X3.out) X3.out; have x4 := below_cell HBb.out (World.block_lt_of_cell? _ _ X4.out) X4.out)
          | (go_at_call 54; refine (HCP.out _ _ _ _ _ (Kd.C_below G3k.out HBb.out) l3k (Kd.C_below G4k.out HBb.out) l4k).mono ?_; rintro e w1 ⟨v3, v4, fss, rfl, ht, hg, hb⟩; obtain ⟨B3, d3, rfl, m3, n3⟩ := SRow_C ht.1; obtain ⟨B4, d4, rfl, m4, n4⟩ := ORow_C ht.2.1; have HT := Lib.hid ht; have HG := Lib.hid hg; have RS1 := Lib.hid (blk_below RSb.out hb); have HB1 := Lib.hid (HBb.out.trans (hb.mono HBb.out.size)); have HSZ := Lib.hid (blk_lt RSb.out); have HBS := Lib.hid HBb.out.size; obtain ⟨r0, r1, r2, r3, r4⟩ := cells5 RS1.out; obtain ⟨p0, p1, p2, p3, p4⟩ := free5 RS1.out; clear ht hg hb n3 n4 z0 z1 z2 z3 z4 f0 f1 f2 f3 f4))
        have hgw := HGR.out
        have hs := HSZ.out
        have hbs := HBS.out
        have hfp := HG.out
        exact bodyPost_ret (v := .tuple #[.agg #[.int .i64 x.f4[i].f0, .int .i64 x.f4[i].f1, .string x.f4[i].f2, .slice B3 x.f4[i].f3.length d3, .slice B4 x.f4[i].f4.length d4], .bool true]) (by simp [results, Try.results30, go_sem, r0, r1, r2, r3, r4, p0, p1, p2, p3, p4]) rfl
          ⟨_, _, fss, by unfold getV; rw [hv]; rfl, by
            unfold getV
            rw [hv]
            exact Top_chg (S := fun k => k = gr) HT.out (((((chg_put w1 gr 0 _).trans (chg_put _ gr 1 _)).trans (chg_put _ gr 2 _)).trans (chg_put _ gr 3 _)).trans (chg_put _ gr 4 _)) (fun k hk e => by have := hfp k hk; omega), fun k hk => by have := hfp k hk; omega, ((((HB1.out.setCell (p := ⟨gr, 0, none⟩) hgw _).setCell (p := ⟨gr, 1, none⟩) hgw _).setCell (p := ⟨gr, 2, none⟩) hgw _).setCell (p := ⟨gr, 3, none⟩) hgw _).setCell (p := ⟨gr, 4, none⟩) hgw _⟩
  · have d5 : decide (x.f0 = 5) = false := decide_eq_false h5
    have hv : getK x key = none := by unfold getK; rw [if_neg h5]
    go_enter Try.func30, Try.ntmps30
    go_wp2_with (first
      | ((with_reducible refine gate_dst (N := 2) rfl ?_); refine box_event rfl (N := 2) rfl (cs := #[.int .i64 x.f0, .int .i64 x.f1, .string x.f2, .slice A3 x.f3.length c3, .slice A4 x.f4.length c4]) (t := 33) (by first | (go_simp; done) | (go_simp; rfl)) ?_; intro gb hgb wa bk hb; have HGB := Lib.hid hgb; have BKa := Lib.hid bk; have HBa := Lib.hid hb; clear hgb bk hb)
      | ((with_reducible refine gate_dst (N := 4) rfl ?_); refine box_event rfl (N := 4) rfl (cs := #[.int .i64 0, .int .i64 0, .string ⟨#[]⟩, .slice none 0 0, .slice none 0 0]) (t := 33) (by first | (go_simp; done) | (go_simp; rfl)) ?_; intro gr hgr wb bk hb; have HGR := Lib.hid (Nat.le_trans HBa.out.size (Nat.le_of_eq hgr.symm)); have RSb := Lib.hid bk; have HBb := Lib.hid (HBa.out.trans (hb.mono HBa.out.size)); have BKb := Lib.hid (blk_below BKa.out hb); obtain ⟨y0, y1, y2, y3, y4⟩ := cells5 BKb.out; obtain ⟨z0, z1, z2, z3, z4⟩ := cells5 RSb.out; obtain ⟨f0, f1, f2, f3, f4⟩ := free5 RSb.out; clear hgr bk hb)
      | (go_at_call 53; refine (idx_calls _ _ x.f3 key _ (Kd.C_below G3.out HBb.out)).mono ?_; rintro e w1 ⟨rfl, rfl⟩; rw [← HKK.out]))
    have hgw := HGR.out
    exact bodyPost_ret (v := .tuple #[.agg #[.int .i64 0, .int .i64 0, .string ⟨#[]⟩, .slice none 0 0, .slice none 0 0], .bool false]) (by simp [results, Try.results30, go_sem, z0, z1, z2, z3, z4, f0, f1, f2, f3, f4]) rfl
      ⟨_, _, [], by unfold getV; rw [hv]; rfl, by unfold getV; rw [hv]; exact Top_zero _, fun k hk => by simp [topFp, Value.ownBlock] at hk, ((((HBb.out.setCell (p := ⟨gr, 0, none⟩) hgw _).setCell (p := ⟨gr, 1, none⟩) hgw _).setCell (p := ⟨gr, 2, none⟩) hgw _).setCell (p := ⟨gr, 3, none⟩) hgw _).setCell (p := ⟨gr, 4, none⟩) hgw _⟩
end Go.Proofs.Ytdlhidjphaaklaa.H
