/- mapOf: what its last Set makes is its own. -/
import Derived.Test.YtnbnpgjgibcmpaaAid
import Derived.Test.YtnbnpgjgibcmpaaCopy
import Derived.Test.YtnbnpgjgibcmpaaDelete
import Derived.Test.YtnbnpgjgibcmpaaGet
import Derived.Test.YtnbnpgjgibcmpaaInsert
import Derived.Test.YtnbnpgjgibcmpaaLaw
import Derived.Test.YtnbnpgjgibcmpaaListOf
import Derived.Test.YtnbnpgjgibcmpaaLists
import Derived.Test.YtnbnpgjgibcmpaaMake
import Derived.Test.YtnbnpgjgibcmpaaMark
import Derived.Test.YtnbnpgjgibcmpaaOwn
import Derived.Test.YtnbnpgjgibcmpaaSet
import Derived.Test.YtnbnpgjgibcmpaaSetLaw
import Derived.Test.YtnbnpgjgibcmpaaSetW
import Derived.Test.YtnbnpgjgibcmpaaUnset
import Derived.Test.YtnbnpgjgibcmpaaUnsetW
import Derived.Deep.RegionWith
namespace Go.Proofs.Ytnbnpgjgibcmpaa.H
open Go.RowKit Go.Proofs.Ytnbnpgjgibcmpaa.P Go.Proofs.YtnbnpgjgibcmpaaW.PrintWords Go.Proofs.YtnbnpgjgibcmpaaW.PrintLast Go.Proofs.Ytnbnpgjgibcmpaa.M
set_option linter.unusedVariables false
set_option linter.unusedSimpArgs false

/-- What mapOf has behind so many Keys. -/
noncomputable def mapV (ks : List ByteArray) (kids : List S25) : Nat → S25
  | 0 => ⟨5, 0, ⟨#[]⟩, [], []⟩
  | i + 1 => setV (mapV ks kids i) (ks.getD i ByteArray.empty) (rd_T25 kids (i : Int))
set_option maxHeartbeats 8000000 in
set_option maxRecDepth 100000 in
theorem mapOf_calls (ks : List ByteArray) (kids : List S25) (A1 A2 : Option Addr) (c1 c2 : Nat) (w : World) (g1 : Kd.C Kd.string w A1 ks.length ks) (l1 : ks.length ≤ c1) (g2 : k25.C w A2 kids.length kids) (l2 : kids.length ≤ c2) (hl : ks.length = kids.length) (hn : ks.length ≤ 1099511627776) (hb : ∀ i, i ≤ ks.length → cntTop (mapV ks kids i) ≤ 1099511627776) (hk : ∀ y ∈ kids, cntTop y ≤ 1099511627776) :
    Calls Try.prog 105 #[.slice A1 ks.length c1, .slice A2 kids.length c2] w fun e w' => Made w (mapV ks kids ks.length) e w' := by
  have hu := Try.underlying25
  have G1 := Lib.hid g1
  have G2 := Lib.hid g2
  have HL := Lib.hid hl
  have HBD := Lib.hid hb
  have HKD := Lib.hid hk
  have HB := Lib.hid (Below.refl w.heap.size w)
  clear g1 g2 hb hk hl
  unfold Made
  go_enter Try.func105, Try.ntmps105
  go_wp2_with (first
    | ((with_reducible refine gate_dst (N := 4) rfl ?_); refine box_event rfl (N := 4) rfl (cs := #[.int .i64 0, .int .i64 0, .string ⟨#[]⟩, .slice none 0 0, .slice none 0 0]) (t := 25) (by first | (go_simp; done) | (go_simp; rfl)) ?_; intro gr hg wr0 bk hb; have GEr := Lib.hid (Nat.le_of_eq hg.symm); have BKr := Lib.hid bk; replace HB := Lib.hid (HB.out.trans (hb.mono HB.out.size)); clear hg bk hb)
    | ((with_reducible refine gate_dst (N := 5) rfl ?_); refine box_event rfl (N := 5) rfl (cs := #[.int .i64 0, .int .i64 0, .string ⟨#[]⟩, .slice none 0 0, .slice none 0 0]) (t := 25) (by first | (go_simp; done) | (go_simp; rfl)) ?_; intro go hg wo bk hb; have GEo := Lib.hid (Nat.le_trans HB.out.size (Nat.le_of_eq hg.symm)); have Lro := Lib.hid (Nat.lt_of_lt_of_le (blk_lt BKr.out) (Nat.le_of_eq hg.symm)); replace BKr := Lib.hid (blk_below BKr.out hb); replace HB := Lib.hid (HB.out.trans (hb.mono HB.out.size)); have BKo := Lib.hid bk; obtain ⟨o0, o1, o2, o3, o4⟩ := cells5 bk; obtain ⟨fo0, fo1, fo2, fo3, fo4⟩ := free5 bk; clear hg bk hb)
    | ((with_reducible refine gate_store (p := 5) rfl ?_); refine store5_event rfl rfl rfl (g := go) (.int .i64 5) (.int .i64 0) (.string ⟨#[]⟩) (.slice none 0 0) (.slice none 0 0) BKo.out (by first | (go_simp; done) | (go_simp; rfl)) ?_; intro w2 bk hc; replace BKr := Lib.hid (blk_chg BKr.out hc (fun e => Nat.ne_of_lt Lro.out e)); replace HB := Lib.hid (below_chg HB.out HB.out.size hc (fun k e => e ▸ GEo.out)); replace BKo := Lib.hid bk; clear bk hc o0 o1 o2 o3 o4 fo0 fo1 fo2 fo3 fo4))
  have HT0 : Hid (Top w2 (.slice none 0 0) (.slice none 0 0) (mapV ks kids 0) []) := ⟨World.ownsRow_nil _ _ _ _, ⟨[], World.ownsRow_nil _ _ _ _, rfl, fun i h => absurd h (Nat.not_lt_zero _)⟩, by simp [Value.ownBlock]⟩
  go_loopg [6, 7, 11] (ks.length + 1) (fun kq v6 v7 v11 w' => ∃ (i : Nat) (v3 v4 : Value) (fss : List (List Nat)), v11 = .int .i64 i ∧ i ≤ ks.length ∧ kq + i = ks.length + 1 ∧ Aside0 (Top w' v3 v4 (mapV ks kids i) fss) ∧ Aside0 (∀ k ∈ topFp v3 v4 fss, w.heap.size ≤ k ∧ k ≠ go ∧ k ≠ gr) ∧
    Aside0 (w'.heap[go]? = some (.cells #[.int .i64 (mapV ks kids i).f0, .int .i64 (mapV ks kids i).f1, .string (mapV ks kids i).f2, v3, v4] 25 (0, 0))) ∧ Aside0 (w'.heap[gr]? = some (.cells #[.int .i64 0, .int .i64 0, .string ⟨#[]⟩, .slice none 0 0, .slice none 0 0] 25 (0, 0))) ∧ Aside0 (Below w.heap.size w w'))
  case atStart => exact ⟨0, _, _, [], rfl, Nat.zero_le _, by omega, ⟨HT0.out⟩, ⟨fun k hk => by simp [topFp, Value.ownBlock] at hk⟩, ⟨BKo.out⟩, ⟨BKr.out⟩, ⟨HB.out⟩⟩
  case round =>
    obtain ⟨i, v3, v4, fss, rfl, hi, hq, HT, HF, BO, BR, HBr⟩ := hrel
    obtain ⟨k1, rfl⟩ : ∃ k1, gk = k1 + 1 := ⟨gk - 1, by omega⟩
    have hs0 := Seen.of_top HT.out
    obtain ⟨E3, q3, E4, q4, rfl, rfl, p3, m3, p4, m4⟩ := hs0
    have P3 := Lib.hid p3
    have P4 := Lib.hid p4
    clear p3 p4
    have hor : go ≠ gr := fun e => Nat.ne_of_lt Lro.out e.symm
    have hro : gr ≠ go := fun e => hor e.symm
    by_cases hlt : i < ks.length
    · skip
      have hlti : (i : Int) < (ks.length : Int) := by omega
      have hltk : (i : Int) < (kids.length : Int) := by have := HL.out; omega
      have hz0 : (0 : Int) ≤ (i : Int) := by omega
      obtain ⟨b0, off0, rfl, hg0⟩ := C_cells (by omega) (Kd.C_below G1.out HBr.out)
      have hcell := hg0 i hlt
      clear hg0
      obtain ⟨ad, A3', c3', A4', c4', ea, x0, x1, x2, x3, x4, l3', g3, l4', g4⟩ := at_T25 (Kd.C_below G2.out HBr.out) (i : Int) (by omega) (by omega)
      rw [Int.toNat_natCast] at x0 x1 x2 x3 x4
      subst ea
      obtain ⟨yy, hyy⟩ : ∃ yy, rd_T25 kids (i : Int) = yy := ⟨_, rfl⟩
      obtain ⟨kk, hkk⟩ : ∃ kk, ks.getD i ByteArray.empty = kk := ⟨_, rfl⟩
      rw [hyy] at x0 x1 x2 x3 x4 l3' g3 l4' g4
      rw [hkk] at hcell
      have hcy : cntTop yy ≤ 1099511627776 := by
        rw [← hyy, rdT2 kids i (by have := HL.out; omega)]
        exact HKD.out _ (List.getElem_mem _)
      have hnx : setV (mapV ks kids i) kk yy = mapV ks kids (i + 1) := by rw [← hyy, ← hkk]; rfl
      have hcx := HBD.out i hi
      obtain ⟨X, hX⟩ : ∃ X, mapV ks kids i = X := ⟨_, rfl⟩
      have HNX := Lib.hid hnx
      rw [hX] at HNX
      replace HT := Lib.hid HT.out
      replace BO := Lib.hid BO.out
      rw [hX] at HT BO hcx
      have P3' : Hid (Kd.C Kd.string wr E3 X.f3.length X.f3) := by show Kd.C _ _ _ _ _; rw [← hX]; exact P3.out
      have P4' : Hid (k25.C wr E4 X.f4.length X.f4) := by show Kd.C _ _ _ _ _; rw [← hX]; exact P4.out
      rw [hX] at m3 m4
      have hd := below_drew (Below.refl wr.heap.size wr)
      have hsc := set_calls X kk yy hcx hcy E3 E4 A3' A4' q3 q4 c3' c4' wr.drew (Kd.C_below P3'.out hd) m3 (Kd.C_below P4'.out hd) m4 (Kd.C_below g3 hd) l3' (Kd.C_below g4 hd) l4'
      have HSC := Lib.hid hsc
      clear hyy hkk hcy hnx hsc hd g3 g4 P3 P4
      obtain ⟨y0, y1, y2, y3, y4⟩ := cells5 BO.out
      have hadw : (ad.add (i * 5)).block < wr.heap.size := World.block_lt_of_cell? wr _ x0
      have hgo : go < wr.heap.size := blk_lt BO.out
      have SO5 : Hid (∀ W : World, Below wr.heap.size wr W → ((W.cell? ⟨go, 0, none⟩ = some (.int .i64 X.f0) ∧ W.cell? ⟨go, 1, none⟩ = some (.int .i64 X.f1) ∧ W.cell? ⟨go, 2, none⟩ = some (.string X.f2) ∧ W.cell? ⟨go, 3, none⟩ = some (.slice E3 X.f3.length q3) ∧ W.cell? ⟨go, 4, none⟩ = some (.slice E4 X.f4.length q4)) ∧ W.cell? (ad.add (i * 5)) = some (.int .i64 yy.f0) ∧ W.cell? ⟨(ad.add (i * 5)).block, (ad.add (i * 5)).off + 1, none⟩ = some (.int .i64 yy.f1) ∧ W.cell? ⟨(ad.add (i * 5)).block, (ad.add (i * 5)).off + 2, none⟩ = some (.string yy.f2) ∧ W.cell? ⟨(ad.add (i * 5)).block, (ad.add (i * 5)).off + 3, none⟩ = some (.slice A3' yy.f3.length c3') ∧ W.cell? ⟨(ad.add (i * 5)).block, (ad.add (i * 5)).off + 4, none⟩ = some (.slice A4' yy.f4.length c4'))) := fun W hW =>
        ⟨⟨below_cell hW hgo y0, below_cell hW hgo y1, below_cell hW hgo y2, below_cell hW hgo y3, below_cell hW hgo y4⟩, below_cell hW hadw x0, below_cell (a := ⟨(ad.add (i * 5)).block, _, none⟩) hW hadw x1, below_cell (a := ⟨(ad.add (i * 5)).block, _, none⟩) hW hadw x2, below_cell (a := ⟨(ad.add (i * 5)).block, _, none⟩) hW hadw x3, below_cell (a := ⟨(ad.add (i * 5)).block, _, none⟩) hW hadw x4⟩
      have HI := Lib.hid hlt
      have HQ := Lib.hid hq
      clear hq
      go_wp2
      refine start_ (n := 8) (S := fun W => (W.cell? ⟨go, 0, none⟩ = some (.int .i64 X.f0) ∧ W.cell? ⟨go, 1, none⟩ = some (.int .i64 X.f1) ∧ W.cell? ⟨go, 2, none⟩ = some (.string X.f2) ∧ W.cell? ⟨go, 3, none⟩ = some (.slice E3 X.f3.length q3) ∧ W.cell? ⟨go, 4, none⟩ = some (.slice E4 X.f4.length q4)) ∧ W.cell? (ad.add (i * 5)) = some (.int .i64 yy.f0) ∧ W.cell? ⟨(ad.add (i * 5)).block, (ad.add (i * 5)).off + 1, none⟩ = some (.int .i64 yy.f1) ∧ W.cell? ⟨(ad.add (i * 5)).block, (ad.add (i * 5)).off + 2, none⟩ = some (.string yy.f2) ∧ W.cell? ⟨(ad.add (i * 5)).block, (ad.add (i * 5)).off + 3, none⟩ = some (.slice A3' yy.f3.length c3') ∧ W.cell? ⟨(ad.add (i * 5)).block, (ad.add (i * 5)).off + 4, none⟩ = some (.slice A4' yy.f4.length c4')) (ds := [7]) #[false, false, false, false, false, false, false, false] (by kernel_rfl) rfl rfl (SO5.out _ (below_drew (Below.refl _ _))) (fun hHeld => ?_)
      refine take_ (i := 0) (N := some 16) (v := ?_) (a' := ?_) (bs_ 8 1) rfl rfl (by kernel_rfl) (fun _ _ _ h => h) (Or.inl ⟨by rfl, ?_⟩) hHeld ?_ ?_
      rotate_left
      · rintro w' ⟨⟨s0, s1, s2, s3, s4⟩, s5, s6, s7, s8, s9⟩
        go_simp
        (first | with_reducible rfl | rfl)
      rotate_left
      · simp only [Act.put, List.setIfInBounds_toArray, List.set_cons_zero, List.set_cons_succ]
        rfl
      refine pure_ (i := 1) (N := some 17) (v := _) (a' := _) (bs_ 8 3) rfl rfl (by kernel_rfl) (fun _ _ _ h => h) (Or.inl ⟨by rfl, by intro w'; go_simp; first | with_reducible rfl | rfl⟩) (by simp only [Act.put, List.setIfInBounds_toArray, List.set_cons_zero, List.set_cons_succ]; rfl) ?_
      refine pure_ (i := 2) (N := some 18) (v := _) (a' := _) (bs_ 8 7) rfl rfl (by kernel_rfl) (fun _ _ _ h => h) (Or.inl ⟨by rfl, by intro w'; go_simp; first | with_reducible rfl | rfl⟩) (by simp only [Act.put, List.setIfInBounds_toArray, List.set_cons_zero, List.set_cons_succ]; rfl) ?_
      refine pure_ (i := 3) (N := some 19) (v := _) (a' := _) (bs_ 8 15) rfl rfl (by kernel_rfl) (fun _ _ _ h => h) (Or.inl ⟨by rfl, by intro w'; go_simp; first | with_reducible rfl | rfl⟩) (by simp only [Act.put, List.setIfInBounds_toArray, List.set_cons_zero, List.set_cons_succ]; rfl) ?_
      refine pure_ (i := 4) (N := some 20) (v := _) (a' := _) (bs_ 8 31) rfl rfl (by kernel_rfl) (fun _ _ _ h => h) (Or.inl ⟨by rfl, by intro w'; go_simp; first | with_reducible rfl | rfl⟩) (by simp only [Act.put, List.setIfInBounds_toArray, List.set_cons_zero, List.set_cons_succ]; rfl) ?_
      refine take_ (i := 5) (N := some 21) (v := ?_) (a' := ?_) (bs_ 8 63) rfl rfl (by kernel_rfl) (fun _ _ _ h => h) (Or.inl ⟨by rfl, ?_⟩) hHeld ?_ ?_
      rotate_left
      · rintro w' ⟨⟨s0, s1, s2, s3, s4⟩, s5, s6, s7, s8, s9⟩
        go_simp
        (first | with_reducible rfl | rfl)
      rotate_left
      · simp only [Act.put, List.setIfInBounds_toArray, List.set_cons_zero, List.set_cons_succ]
        rfl
      refine one_ (i := 6) (N := some 22) (bs_ 8 127) rfl rfl (by kernel_rfl) (by decide) (fun K hK => ?_)
      refine goes_ Try.func50 (by kernel_rfl) rfl #[.agg #[.int .i64 X.f0, .int .i64 X.f1, .string X.f2, .slice E3 X.f3.length q3, .slice E4 X.f4.length q4], .string kk, .agg #[.int .i64 yy.f0, .int .i64 yy.f1, .string yy.f2, .slice A3' yy.f3.length c3', .slice A4' yy.f4.length c4']] (by rfl) rfl rfl (by (try simp only [List.map_toArray, List.map_cons, List.map_nil]); first | done | rfl) ?_
      refine HSC.out.mono ?_
      rintro e w6 ⟨u3, u4, gs, rfl, ht, hf, hb⟩
      refine ⟨_, rfl, ?_⟩
      have HW6 := Lib.hid ((below_drew (Below.refl wr.heap.size wr)).trans hb)
      have hs6 := Seen.of_top ht; obtain ⟨D3, r3, D4, r4, rfl, rfl, _, _, _, _⟩ := hs6
      have HT6 := Lib.hid ht; have HF6 : Hid (∀ k ∈ topFp (.slice D3 (setV X kk yy).f3.length r3) (.slice D4 (setV X kk yy).f4.length r4) gs, wr.heap.size ≤ k) := fun k hk => hf k hk; have BO6 := Lib.hid (blk_below BO.out HW6.out); have BR6 := Lib.hid (blk_below BR.out HW6.out); have HB6 := Lib.hid (HBr.out.trans (HW6.out.mono HBr.out.size)); clear ht hf hb HSC
      obtain ⟨o0, o1, o2, o3, o4⟩ := cells5 BO6.out; obtain ⟨fo0, fo1, fo2, fo3, fo4⟩ := free5 BO6.out
      refine hK.out _ _ (SO5.out _ HW6.out) (fun hHeld => ?_)
      clear hK K
      refine norm_ (a' := ?_) ?_ ?_
      rotate_left
      · show Act.put _ (some 22) _ = _
        simp only [Act.put, List.setIfInBounds_toArray, List.set_cons_zero, List.set_cons_succ]
        rfl
      refine last_ (i := 7) (N := none) (bs_ 8 255) rfl rfl (by kernel_rfl) (by decide) (fun K hK => ?_)
      refine skip_ (w1 := ?_) (by rfl) rfl ?_ ?_
      rotate_left
      · go_simp
        rfl
      refine hK.out _ _ ?_
      clear hK K
      refine done_ (by kernel_rfl) ?_
      have HC := Lib.hid ((((chg_put w6 go 0 (.int .i64 (setV X kk yy).f0)).trans (chg_put _ go 1 (.int .i64 (setV X kk yy).f1))).trans (chg_put _ go 2 (.string (setV X kk yy).f2))).trans (chg_put _ go 3 (.slice D3 (setV X kk yy).f3.length r3)) |>.trans (chg_put _ go 4 (.slice D4 (setV X kk yy).f4.length r4)))
      have BO8 := Lib.hid (put5 BO6.out (.int .i64 (setV X kk yy).f0) (.int .i64 (setV X kk yy).f1) (.string (setV X kk yy).f2) (.slice D3 (setV X kk yy).f3.length r3) (.slice D4 (setV X kk yy).f4.length r4))
      generalize hV : setV X kk yy = V at *
      clear hV
      obtain rfl := HNX.out
      go_wp2
      go_roundg k1
      case rel =>
        have hi8 := HI.out
        have hq8 := HQ.out
        refine ⟨i + 1, _, _, gs, by go_num, by omega, by omega, ⟨Top_chg HT6.out HC.out (fun k hk (e : k = go) => by have h1 := HF6.out k hk; omega)⟩, ⟨fun k hk => ?_⟩, ⟨BO8.out⟩, ⟨blk_chg BR6.out HC.out hro⟩, ⟨below_chg HB6.out HB6.out.size HC.out (fun k e => e ▸ GEo.out)⟩⟩
        have h1 := HF6.out k hk
        have h2 := HBr.out.size
        have h3 := blk_lt BR.out
        exact ⟨by omega, by omega, by omega⟩
      case measure => omega
    · obtain rfl : i = ks.length := by omega
      obtain ⟨y0, y1, y2, y3, y4⟩ := cells5 BO.out
      obtain ⟨r0, r1, r2, r3, r4⟩ := cells5 BR.out
      obtain ⟨p0, p1, p2, p3, p4⟩ := free5 BR.out
      have hlti : ¬ (ks.length : Int) < (ks.length : Int) := by omega
      have hgw : w.heap.size ≤ gr := GEr.out
      obtain ⟨X, hX⟩ : ∃ X, mapV ks kids ks.length = X := ⟨_, rfl⟩
      have HX := Lib.hid hX
      rw [hX] at y0 y1 y2 y3 y4 m3 m4
      have HTX : Hid (Top wr (.slice E3 X.f3.length q3) (.slice E4 X.f4.length q4) X fss) := by show Top _ _ _ _ _; rw [← hX]; exact HT.out
      have HFX : Hid (∀ k ∈ topFp (.slice E3 X.f3.length q3) (.slice E4 X.f4.length q4) fss, w.heap.size ≤ k ∧ k ≠ go ∧ k ≠ gr) := by show ∀ k ∈ _, _; rw [← hX]; exact HF.out
      clear hX
      go_wp2
      rw [HX.out]
      exact bodyPost_ret (v := .agg #[.int .i64 X.f0, .int .i64 X.f1, .string X.f2, .slice E3 X.f3.length q3, .slice E4 X.f4.length q4]) (by simp [results, Try.results105, go_sem, r0, r1, r2, r3, r4, p0, p1, p2, p3, p4]) rfl
        ⟨_, _, rfl, fss, Top_chg (S := fun k => k = gr) HTX.out (((((chg_put _ gr 0 _).trans (chg_put _ gr 1 _)).trans (chg_put _ gr 2 _)).trans (chg_put _ gr 3 _)).trans (chg_put _ gr 4 _)) (fun k hk e => (HFX.out k hk).2.2 e), fun k hk => (HFX.out k hk).1, ((((HBr.out.setCell (p := ⟨gr, 0, none⟩) hgw _).setCell (p := ⟨gr, 1, none⟩) hgw _).setCell (p := ⟨gr, 2, none⟩) hgw _).setCell (p := ⟨gr, 3, none⟩) hgw _).setCell (p := ⟨gr, 4, none⟩) hgw _⟩
end Go.Proofs.Ytnbnpgjgibcmpaa.H
