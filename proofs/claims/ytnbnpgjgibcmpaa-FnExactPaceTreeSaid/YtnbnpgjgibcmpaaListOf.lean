/- ListOf: a list of one's own. -/
import Derived.Test.YtnbnpgjgibcmpaaAid
import Derived.Test.YtnbnpgjgibcmpaaCopy
import Derived.Test.YtnbnpgjgibcmpaaLists
import Derived.Test.YtnbnpgjgibcmpaaMark
import Derived.Test.YtnbnpgjgibcmpaaOwn
namespace Go.Proofs.Ytnbnpgjgibcmpaa.H
open Go.RowKit Go.Proofs.Ytnbnpgjgibcmpaa.P Go.Proofs.YtnbnpgjgibcmpaaW.PrintWords Go.Proofs.Ytnbnpgjgibcmpaa.M
set_option linter.unusedVariables false
set_option linter.unusedSimpArgs false

/-- A tree that was made: all its memory is new. -/
def Made (w : World) (x : S25) (e : Ending) (w' : World) : Prop := ∃ v3 v4 fss, e = .returned (.agg #[.int .i64 x.f0, .int .i64 x.f1, .string x.f2, v3, v4]) ∧ Top w' v3 v4 x fss ∧ (∀ k ∈ topFp v3 v4 fss, w.heap.size ≤ k) ∧ Below w.heap.size w w'
theorem chg_put (w : World) (g i : Nat) (u : Value) : Chg (fun k => k = g) w (w.setCell ⟨g, i, none⟩ u) := Chg.set w ⟨g, i, none⟩ u rfl
set_option maxHeartbeats 4000000 in
set_option maxRecDepth 100000 in
theorem listOf_calls (l : List S25) (A : Option Addr) (c : Nat) (w : World) (hr : k25.C w A l.length l) (hc : l.length ≤ c) (hs : (l.map cntK).sum ≤ 1099511627776) :
    Calls Try.prog 37 #[.slice A l.length c] w fun e w' => Made w ⟨4, 0, ⟨#[]⟩, [], l⟩ e w' := by
  have hu := Try.underlying25
  have HR := Lib.hid hr
  clear hr
  have hcp : ToCopy ⟨4, 0, ⟨#[]⟩, [], l⟩ := copy_all _ (by unfold cntTop; simpa using hs)
  have HC := Lib.hid hcp
  clear hcp
  go_enter Try.func37, Try.ntmps37
  go_wp2_with (first
    | ((with_reducible refine gate_dst (N := 2) rfl ?_); refine box_event rfl (N := 2) rfl (cs := #[.int .i64 0, .int .i64 0, .string ⟨#[]⟩, .slice none 0 0, .slice none 0 0]) (t := 25) (by first | (go_simp; done) | (go_simp; rfl)) ?_; intro gr hgr wb bk hb; have HGR := Lib.hid hgr; have RS := Lib.hid bk; have HB := Lib.hid hb; clear hgr bk hb)
    | (go_at_call 86; refine (HC.out none _ 0 c _ ⟨rfl, by simp, fun h => absurd h (Nat.lt_irrefl 0)⟩ (Nat.le_refl _) (Kd.C_below HR.out HB.out) hc).mono ?_; rintro e w1 ⟨v3, v4, fss, rfl, ht, hg, hb⟩; obtain ⟨B3, d3, rfl, m3, n3⟩ := SRow_C ht.1; obtain ⟨B4, d4, rfl, m4, n4⟩ := ORow_C ht.2.1; have HT := Lib.hid ht; have HG := Lib.hid hg; have RS1 := Lib.hid (blk_below RS.out hb); have HB1 := Lib.hid (HB.out.trans (hb.mono HB.out.size)); have HSZ := Lib.hid (blk_lt RS.out); have r0 : w1.cell? ⟨gr, 0, none⟩ = some (.int .i64 0) := (blk_cell RS1.out 0).trans rfl; have r1 : w1.cell? ⟨gr, 1, none⟩ = some (.int .i64 0) := (blk_cell RS1.out 1).trans rfl; have r2 : w1.cell? ⟨gr, 2, none⟩ = some (.string ⟨#[]⟩) := (blk_cell RS1.out 2).trans rfl; have r3 : w1.cell? ⟨gr, 3, none⟩ = some (.slice none 0 0) := (blk_cell RS1.out 3).trans rfl; have r4 : w1.cell? ⟨gr, 4, none⟩ = some (.slice none 0 0) := (blk_cell RS1.out 4).trans rfl; have p0 := blk_frozen RS1.out 0; have p1 := blk_frozen RS1.out 1; have p2 := blk_frozen RS1.out 2; have p3 := blk_frozen RS1.out 3; have p4 := blk_frozen RS1.out 4; clear ht hg hb n3 n4))
  have hgw : w.heap.size ≤ gr := by rw [HGR.out]; exact Nat.le_refl _
  have hs := HSZ.out
  have hfp := HG.out
  exact bodyPost_ret (v := .agg #[.int .i64 4, .int .i64 0, .string ⟨#[]⟩, .slice B3 0 d3, .slice B4 l.length d4]) (by simp [results, Try.results37, go_sem, r0, r1, r2, r3, r4, p0, p1, p2, p3, p4]) rfl
    ⟨_, _, fss, rfl, Top_chg (S := fun k => k = gr) HT.out (((((chg_put w1 gr 0 _).trans (chg_put _ gr 1 _)).trans (chg_put _ gr 2 _)).trans (chg_put _ gr 3 _)).trans (chg_put _ gr 4 _)) (fun k hk e => by have := hfp k hk; omega), fun k hk => by have := hfp k hk; omega, ((((HB1.out.setCell (p := ⟨gr, 0, none⟩) hgw _).setCell (p := ⟨gr, 1, none⟩) hgw _).setCell (p := ⟨gr, 2, none⟩) hgw _).setCell (p := ⟨gr, 3, none⟩) hgw _).setCell (p := ⟨gr, 4, none⟩) hgw _⟩
end Go.Proofs.Ytnbnpgjgibcmpaa.H
