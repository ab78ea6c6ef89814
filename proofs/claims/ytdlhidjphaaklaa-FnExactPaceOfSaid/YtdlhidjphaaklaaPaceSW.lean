/- spec.PaceOf, walked with the contracts of what it calls. (Printed by wip/mkpace.py.) -/
import Derived.Test.YtdlhidjphaaklaaAid
import Derived.Test.YtdlhidjphaaklaaBase
import Derived.Test.YtdlhidjphaaklaaCopy
import Derived.Test.YtdlhidjphaaklaaEv
import Derived.Test.YtdlhidjphaaklaaGet
import Derived.Test.YtdlhidjphaaklaaKeys
import Derived.Test.YtdlhidjphaaklaaLists
import Derived.Test.YtdlhidjphaaklaaMark
import Derived.Test.YtdlhidjphaaklaaOwn
import Derived.Test.YtdlhidjphaaklaaP_spec_Get
import Derived.Test.YtdlhidjphaaklaaP_spec_l2Times
import Derived.Test.YtdlhidjphaaklaaP_spec_l7In
import Derived.Test.YtdlhidjphaaklaaPaceIn
import Derived.Test.YtdlhidjphaaklaaPaceOf
import Derived.Test.YtdlhidjphaaklaaSpanOf
import Derived.Test.YtdlhidjphaaklaaSpecAt
import Derived.Test.YtdlhidjphaaklaaSpecGetG
import Derived.Test.YtdlhidjphaaklaaStrange
import Derived.Test.YtdlhidjphaaklaaTok
import Derived.Test.YtdlhidjphaaklaaTree
namespace Go.Proofs.Ytdlhidjphaaklaa.H
open Go.RowKit Go.Proofs.Ytdlhidjphaaklaa.P Go.Proofs.YtdlhidjphaaklaaW.PrintWords Go.Proofs.Ytdlhidjphaaklaa.M
set_option linter.unusedVariables false
set_option linter.unusedSimpArgs false
section
variable {P : Program} {ops : Array Oper} {rest : List Oper} {o : Oper} {a : Act} {Q : Exit → Act → World → Prop}
theorem litN_event {W : World} (hgd : o.guard = none) {N : Tmp} (_hd : o.dst = some N) (n c : Nat) {cs : Array Value} {t : TypeId}
    (hrun : (execOp a.eval o).run P W = .ok (.value (.slice (some ⟨W.heap.size, 0, none⟩) n c)) (W.alloc (.cells cs t (0, 0))))
    (h : ∀ g, g = W.heap.size → ∀ w1, w1.heap[g]? = some (.cells cs t (0, 0)) → Below W.heap.size W w1 → wpList P ops Q rest (a.put o.dst (.slice (some ⟨g, 0, none⟩) n c)) w1) : wpList P ops Q (o :: rest) a W :=
  Kd.event_run hgd hrun (h _ rfl _ (blk_new W _) (below_alloc (Below.refl _ _) _))
theorem store4_event {W : World} (hgd : o.guard = none) {t : TypeId} {p : Tmp} {v : Operand} (_ho : o.op = .store t (.tmp p) v) (hN : o.dst = none) {g : Nat} {a0 a1 a2 a3 : Value} (u0 u1 u2 u3 : Value)
    (bk : W.heap[g]? = some (.cells #[a0, a1, a2, a3] t (0, 0)))
    (hrun : (execOp a.eval o).run P W = .ok .skip ((((W.setCell ⟨g, 0, none⟩ u0).setCell ⟨g, 1, none⟩ u1).setCell ⟨g, 2, none⟩ u2).setCell ⟨g, 3, none⟩ u3))
    (h : ∀ w', w'.heap[g]? = some (.cells #[u0, u1, u2, u3] t (0, 0)) → Chg (fun k => k = g) W w' → wpList P ops Q rest a w') : wpList P ops Q (o :: rest) a W :=
  store_event hgd _ho hN hrun (fun w' e => h w' (e ▸ blk_put (blk_put (blk_put (blk_put bk 0 u0 rfl) 1 u1 rfl) 2 u2 rfl) 3 u3 rfl) (e ▸ (((chg_at W g 0 u0).trans (chg_at _ g 1 u1)).trans (chg_at _ g 2 u2)).trans (chg_at _ g 3 u3)))
end
theorem cells4 {W : World} {g : Nat} {t : TypeId} {a0 a1 a2 a3 : Value} (h : W.heap[g]? = some (.cells #[a0, a1, a2, a3] t (0, 0))) : W.cell? ⟨g, 0, none⟩ = some a0 ∧ W.cell? ⟨g, 1, none⟩ = some a1 ∧ W.cell? ⟨g, 2, none⟩ = some a2 ∧ W.cell? ⟨g, 3, none⟩ = some a3 :=
  ⟨(blk_cell h 0).trans rfl, (blk_cell h 1).trans rfl, (blk_cell h 2).trans rfl, (blk_cell h 3).trans rfl⟩
theorem free4 {W : World} {g : Nat} {t : TypeId} {cs : Array Value} (h : W.heap[g]? = some (.cells cs t (0, 0))) : W.frozen? ⟨g, 0, none⟩ = false ∧ W.frozen? ⟨g, 1, none⟩ = false ∧ W.frozen? ⟨g, 2, none⟩ = false ∧ W.frozen? ⟨g, 3, none⟩ = false :=
  ⟨blk_frozen h 0, blk_frozen h 1, blk_frozen h 2, blk_frozen h 3⟩
theorem lits_C4 {w : World} {g : Nat} {t : TypeId} (h : w.heap[g]? = some (.cells #[.string DOWN, .string DSPAN, .string UP, .string USPAN] t (0, 0))) : Kd.string.C w (some ⟨g, 0, none⟩) 4 K4 := by
  refine ⟨rfl, by omega, fun _ => ⟨⟨g, 0, none⟩, rfl, fun j p hj => ?_⟩⟩
  have hj4 : j < 4 := (List.getElem?_eq_some_iff.1 hj).1
  refine ⟨[.string p], rfl, rfl, fun i u hu => ?_⟩
  cases i with
  | zero =>
    simp only [List.getElem?_cons_zero, Option.some.injEq] at hu
    subst hu
    rw [Addr.add_lit, Nat.zero_add, blk_cell h]
    rcases (by omega : j = 0 ∨ j = 1 ∨ j = 2 ∨ j = 3) with rfl | rfl | rfl | rfl <;> (simp [K4] at hj; subst hj; rfl)
  | succ i => simp at hu
set_option maxHeartbeats 16000000 in
set_option maxRecDepth 100000 in
theorem paceOfS_calls (x : S33) (hcn : cntTop x ≤ 1099511627776) (ht : totK x ≤ 1048576) (A3 A4 : Option Addr) (c3 c4 : Nat) (w : World) (g3 : Kd.C Kd.string w A3 x.f3.length x.f3) (l3 : x.f3.length ≤ c3) (g4 : k33.C w A4 x.f4.length x.f4) (l4 : x.f4.length ≤ c4) :
    Calls Try.prog 6 #[.agg #[.int .i64 x.f0, .int .i64 x.f1, .string x.f2, .slice A3 x.f3.length c3, .slice A4 x.f4.length c4]] w fun e w' => e = .returned (.tuple #[.agg #[.int .i64 (paceE x).1, .int .i64 (paceE x).2.1, .int .i64 (paceE x).2.2.1, .int .i64 (paceE x).2.2.2.1], .string (paceE x).2.2.2.2]) ∧ Below w.heap.size w w' := by
  have hu := Try.underlying33
  have hu2 := Try.underlying28
  have hl : x.f3.length ≤ 1099511627776 := by unfold cntTop at hcn; omega
  have hfit := (specFit_ev x K4 (by decide) ht hl).rounds
  obtain ⟨ft, hft⟩ : ∃ ft, (if x.f0 = 5 ∧ treeOkK x = true then fit1 K4 x.f3 else ⟨#[46]⟩) = ft := ⟨_, rfl⟩
  rw [hft] at hfit
  have FIT : Hid (∀ (A3 A4 A1 : Option Addr) (c3 c4 : Nat) (w : World), Kd.C Kd.string w A3 x.f3.length x.f3 → x.f3.length ≤ c3 → k33.C w A4 x.f4.length x.f4 → x.f4.length ≤ c4 → Kd.string.C w A1 4 K4 → Calls Try.prog 19 #[.agg #[.int .i64 x.f0, .int .i64 x.f1, .string x.f2, .slice A3 x.f3.length c3, .slice A4 x.f4.length c4], .slice A1 4 4, .slice none 0 0] w fun e w' => e = .returned (.string ft) ∧ Below w.heap.size w w') := fun A3 A4 A1 c3 c4 w h1 h2 h3 h4 h5 =>
    spec_l7Fit.calls _ x.f0 x.f1 x.f2 A3 c3 x.f3 A4 c4 x.f4 A1 4 K4 none 0 [] ft w h1 h2 h3 h4 h5 (by decide) ⟨rfl, Nat.zero_le _, fun h => absurd h (Nat.lt_irrefl 0)⟩ (by decide) hfit.choose_spec
  have G3 := Lib.hid g3
  have G4 := Lib.hid g4
  have HB := Lib.hid (Below.refl w.heap.size w)
  have T0 : True := trivial
  by_cases he : ft.toList = []
  · have e0 := (empty_iff ft).1 he
    have he1 : ft.toList.isEmpty = true := by rw [he]; rfl
    have he2 : (ft.toList == ([] : List UInt8)) = true := by rw [he]; rfl
    have he3 : (ft.toList != ([] : List UInt8)) = false := by rw [he]; rfl
    have hE : paceE x = paceR x := by
      unfold paceE
      by_cases hA : x.f0 = 5 ∧ treeOkK x = true
      · rw [if_pos hA] at hft ⊢
        rw [if_pos (hft.trans e0)]
      · rw [if_neg hA] at hft
        rw [e0] at hft
        simp at hft
    unfold paceR at hE
    have a1 := (specInt_ev x DOWN 0 hcn).rounds
    have a2 := (specSpan_ev x DSPAN 300 hcn ht).rounds
    have a3 := (specInt_ev x UP 0 hcn).rounds
    have a4 := (specSpan_ev x USPAN 0 hcn ht).rounds
    obtain ⟨⟨d1, b1⟩, h1⟩ : ∃ p, intR x DOWN 0 = p := ⟨_, rfl⟩
    obtain ⟨⟨d2, b2⟩, h2⟩ : ∃ p, spanR x DSPAN 300 = p := ⟨_, rfl⟩
    obtain ⟨⟨d3, b3⟩, h3⟩ : ∃ p, intR x UP 0 = p := ⟨_, rfl⟩
    obtain ⟨⟨d4, b4⟩, h4⟩ : ∃ p, spanR x USPAN 0 = p := ⟨_, rfl⟩
    rw [h1, h2, h3, h4] at hE
    rw [h1] at a1
    rw [h2] at a2
    rw [h3] at a3
    rw [h4] at a4
    have A1 := Lib.hid a1
    have A2 := Lib.hid a2
    have A3' := Lib.hid a3
    have A4' := Lib.hid a4
    have HE := Lib.hid hE
    clear g3 g4 hfit hft hcn ht a1 a2 a3 a4 hE h1 h2 h3 h4 he e0
    cases b1 <;> cases b2 <;> cases b3 <;> cases b4 <;> simp only [Bool.false_eq_true, if_false, if_true] at HE
    all_goals
      go_enter Try.func6, Try.ntmps6
      go_wp2_with (first
      | (clear T0; (with_reducible refine gate_dst (N := 1) rfl ?_); refine box_event rfl (N := 1) rfl (cs := #[.int .i64 x.f0, .int .i64 x.f1, .string x.f2, .slice A3 x.f3.length c3, .slice A4 x.f4.length c4]) (t := 33) (by first | (go_simp; done) | (go_simp; rfl)) ?_; intro gb hg wba bk hb; have GEb := Lib.hid (Nat.le_trans HB.out.size (Nat.le_of_eq hg.symm)); replace HB := Lib.hid (HB.out.trans (hb.mono HB.out.size)); have BKb := Lib.hid bk; obtain ⟨b0, b1, b2, b3, b4⟩ := cells5 BKb.out; clear hg bk hb; have T1 : True := trivial)
      | (clear T1; (with_reducible refine gate_dst (N := 2) rfl ?_); refine box_event rfl (N := 2) rfl (cs := #[.int .i64 0, .int .i64 0, .int .i64 0, .int .i64 0]) (t := 28) (by first | (go_simp; done) | (go_simp; rfl)) ?_; intro gr hg wra bk hb; have GEr := Lib.hid (Nat.le_trans HB.out.size (Nat.le_of_eq hg.symm)); have Lbr := Lib.hid (Nat.lt_of_lt_of_le (blk_lt BKb.out) (Nat.le_of_eq hg.symm)); replace HB := Lib.hid (HB.out.trans (hb.mono HB.out.size)); replace BKb := Lib.hid (blk_below BKb.out hb); have BKr := Lib.hid bk; clear b0 b1 b2 b3 b4; obtain ⟨b0, b1, b2, b3, b4⟩ := cells5 BKb.out; obtain ⟨r0, r1, r2, r3⟩ := cells4 BKr.out; clear hg bk hb; have T2 : True := trivial)
      | (clear T2; (with_reducible refine gate_dst (N := 15) rfl ?_); refine litN_event rfl (N := 15) rfl 4 4 (cs := #[.string ⟨#[100, 111, 119, 110]⟩, .string ⟨#[100, 111, 119, 110, 115, 112, 97, 110]⟩, .string ⟨#[117, 112]⟩, .string ⟨#[117, 112, 115, 112, 97, 110]⟩]) (t := 9) (by first | (go_simp; done) | (go_simp; rfl)) ?_; intro gKC hg wKCa bk hb; replace HB := Lib.hid (HB.out.trans (hb.mono HB.out.size)); replace BKb := Lib.hid (blk_below BKb.out hb); replace BKr := Lib.hid (blk_below BKr.out hb); have KC := Lib.hid (lits_C4 bk); clear b0 b1 b2 b3 b4; clear r0 r1 r2 r3; obtain ⟨b0, b1, b2, b3, b4⟩ := cells5 BKb.out; obtain ⟨r0, r1, r2, r3⟩ := cells4 BKr.out; clear hg bk hb; have T3 : True := trivial)
      | (clear T3; go_at_call 19; refine (FIT.out _ _ _ _ _ _ (Kd.C_below G3.out HB.out) l3 (Kd.C_below G4.out HB.out) l4 KC.out).mono ?_; rintro e w1 ⟨rfl, hb⟩; replace HB := Lib.hid (HB.out.trans (hb.mono HB.out.size)); replace BKb := Lib.hid (blk_below BKb.out hb); replace BKr := Lib.hid (blk_below BKr.out hb); clear b0 b1 b2 b3 b4; clear r0 r1 r2 r3; obtain ⟨b0, b1, b2, b3, b4⟩ := cells5 BKb.out; obtain ⟨r0, r1, r2, r3⟩ := cells4 BKr.out; clear hb; clear KC; have T4 : True := trivial)
      | (clear T4; go_at_call 20; refine (spec_PaceNew.calls 0 0 0 300 _ rfl).mono ?_; rintro e w2 ⟨rfl, hb⟩; replace HB := Lib.hid (HB.out.trans (hb.mono HB.out.size)); replace BKb := Lib.hid (blk_below BKb.out hb); replace BKr := Lib.hid (blk_below BKr.out hb); clear b0 b1 b2 b3 b4; clear r0 r1 r2 r3; obtain ⟨b0, b1, b2, b3, b4⟩ := cells5 BKb.out; obtain ⟨r0, r1, r2, r3⟩ := cells4 BKr.out; clear hb; have T5 : True := trivial)
      | (clear T5; (with_reducible refine gate_dst (N := 5) rfl ?_); refine box_event rfl (N := 5) rfl (cs := #[.int .i64 0, .int .i64 0, .int .i64 0, .int .i64 0]) (t := 28) (by first | (go_simp; done) | (go_simp; rfl)) ?_; intro gp hg wpa bk hb; have GEp := Lib.hid (Nat.le_trans HB.out.size (Nat.le_of_eq hg.symm)); have Lbp := Lib.hid (Nat.lt_of_lt_of_le (blk_lt BKb.out) (Nat.le_of_eq hg.symm)); have Lrp := Lib.hid (Nat.lt_of_lt_of_le (blk_lt BKr.out) (Nat.le_of_eq hg.symm)); replace HB := Lib.hid (HB.out.trans (hb.mono HB.out.size)); replace BKb := Lib.hid (blk_below BKb.out hb); replace BKr := Lib.hid (blk_below BKr.out hb); have BKp := Lib.hid bk; clear b0 b1 b2 b3 b4; clear r0 r1 r2 r3; obtain ⟨b0, b1, b2, b3, b4⟩ := cells5 BKb.out; obtain ⟨r0, r1, r2, r3⟩ := cells4 BKr.out; obtain ⟨p0, p1, p2, p3⟩ := cells4 BKp.out; clear hg bk hb; have T6 : True := trivial)
      | (clear T6; (with_reducible refine gate_store (p := 5) rfl ?_); have hfr := free4 BKp.out; obtain ⟨f0, f1, f2, f3⟩ := hfr; refine store4_event rfl rfl rfl (g := gp) (.int .i64 0) (.int .i64 0) (.int .i64 0) (.int .i64 300) BKp.out (by first | (go_simp; done) | (go_simp; rfl)) ?_; intro wpb bk hc; clear f0 f1 f2 f3; replace BKb := Lib.hid (blk_chg BKb.out hc (fun e => Nat.ne_of_lt Lbp.out e)); replace BKr := Lib.hid (blk_chg BKr.out hc (fun e => Nat.ne_of_lt Lrp.out e)); replace HB := Lib.hid (below_chg HB.out HB.out.size hc (fun k e => e ▸ GEp.out)); replace BKp := Lib.hid bk; clear b0 b1 b2 b3 b4; clear r0 r1 r2 r3; clear p0 p1 p2 p3; obtain ⟨b0, b1, b2, b3, b4⟩ := cells5 BKb.out; obtain ⟨r0, r1, r2, r3⟩ := cells4 BKr.out; obtain ⟨p0, p1, p2, p3⟩ := cells4 BKp.out; clear bk hc; have T7 : True := trivial)
      | (clear T7; go_at_call 21; refine (spec_l7Int.calls _ x.f0 x.f1 x.f2 _ _ x.f3 _ _ x.f4 DOWN 0 1000 0 _ _ _ (Kd.C_below G3.out HB.out) l3 (Kd.C_below G4.out HB.out) l4 A1.out.choose_spec).mono ?_; rintro e w3 ⟨rfl, hb⟩; replace HB := Lib.hid (HB.out.trans (hb.mono HB.out.size)); replace BKb := Lib.hid (blk_below BKb.out hb); replace BKr := Lib.hid (blk_below BKr.out hb); replace BKp := Lib.hid (blk_below BKp.out hb); clear b0 b1 b2 b3 b4; clear r0 r1 r2 r3; clear p0 p1 p2 p3; obtain ⟨b0, b1, b2, b3, b4⟩ := cells5 BKb.out; obtain ⟨r0, r1, r2, r3⟩ := cells4 BKr.out; obtain ⟨p0, p1, p2, p3⟩ := cells4 BKp.out; clear hb; have T8 : True := trivial)
      | (clear T8; go_at_call 22; refine (spec_l7Span.calls _ x.f0 x.f1 x.f2 _ _ x.f3 _ _ x.f4 DSPAN 300 _ _ _ (Kd.C_below G3.out HB.out) l3 (Kd.C_below G4.out HB.out) l4 A2.out.choose_spec).mono ?_; rintro e w4 ⟨rfl, hb⟩; replace HB := Lib.hid (HB.out.trans (hb.mono HB.out.size)); replace BKb := Lib.hid (blk_below BKb.out hb); replace BKr := Lib.hid (blk_below BKr.out hb); replace BKp := Lib.hid (blk_below BKp.out hb); clear b0 b1 b2 b3 b4; clear r0 r1 r2 r3; clear p0 p1 p2 p3; obtain ⟨b0, b1, b2, b3, b4⟩ := cells5 BKb.out; obtain ⟨r0, r1, r2, r3⟩ := cells4 BKr.out; obtain ⟨p0, p1, p2, p3⟩ := cells4 BKp.out; clear hb; have T9 : True := trivial)
      | (clear T9; go_at_call 21; refine (spec_l7Int.calls _ x.f0 x.f1 x.f2 _ _ x.f3 _ _ x.f4 UP 0 1000 0 _ _ _ (Kd.C_below G3.out HB.out) l3 (Kd.C_below G4.out HB.out) l4 A3'.out.choose_spec).mono ?_; rintro e w5 ⟨rfl, hb⟩; replace HB := Lib.hid (HB.out.trans (hb.mono HB.out.size)); replace BKb := Lib.hid (blk_below BKb.out hb); replace BKr := Lib.hid (blk_below BKr.out hb); replace BKp := Lib.hid (blk_below BKp.out hb); clear b0 b1 b2 b3 b4; clear r0 r1 r2 r3; clear p0 p1 p2 p3; obtain ⟨b0, b1, b2, b3, b4⟩ := cells5 BKb.out; obtain ⟨r0, r1, r2, r3⟩ := cells4 BKr.out; obtain ⟨p0, p1, p2, p3⟩ := cells4 BKp.out; clear hb; have T10 : True := trivial)
      | (clear T10; go_at_call 22; refine (spec_l7Span.calls _ x.f0 x.f1 x.f2 _ _ x.f3 _ _ x.f4 USPAN 0 _ _ _ (Kd.C_below G3.out HB.out) l3 (Kd.C_below G4.out HB.out) l4 A4'.out.choose_spec).mono ?_; rintro e w6 ⟨rfl, hb⟩; replace HB := Lib.hid (HB.out.trans (hb.mono HB.out.size)); replace BKb := Lib.hid (blk_below BKb.out hb); replace BKr := Lib.hid (blk_below BKr.out hb); replace BKp := Lib.hid (blk_below BKp.out hb); clear b0 b1 b2 b3 b4; clear r0 r1 r2 r3; clear p0 p1 p2 p3; obtain ⟨b0, b1, b2, b3, b4⟩ := cells5 BKb.out; obtain ⟨r0, r1, r2, r3⟩ := cells4 BKr.out; obtain ⟨p0, p1, p2, p3⟩ := cells4 BKp.out; clear hb; have T11 : True := trivial)
      | (clear T11; (with_reducible refine gate_store (p := 2) rfl ?_); have hfr := free4 BKr.out; obtain ⟨f0, f1, f2, f3⟩ := hfr; refine store4_event rfl rfl rfl (g := gr) (.int .i64 0) (.int .i64 0) (.int .i64 0) (.int .i64 0) BKr.out (by first | (go_simp; done) | (go_simp; rfl)) ?_; intro wrb bk hc; clear f0 f1 f2 f3; replace BKb := Lib.hid (blk_chg BKb.out hc (fun e => Nat.ne_of_lt Lbr.out e)); replace BKp := Lib.hid (blk_chg BKp.out hc (fun e => Nat.ne_of_lt Lrp.out e.symm)); replace HB := Lib.hid (below_chg HB.out HB.out.size hc (fun k e => e ▸ GEr.out)); replace BKr := Lib.hid bk; clear b0 b1 b2 b3 b4; clear r0 r1 r2 r3; clear p0 p1 p2 p3; obtain ⟨b0, b1, b2, b3, b4⟩ := cells5 BKb.out; obtain ⟨r0, r1, r2, r3⟩ := cells4 BKr.out; obtain ⟨p0, p1, p2, p3⟩ := cells4 BKp.out; clear bk hc; have T12 : True := trivial)
      | (clear T11; (with_reducible refine gate_store (p := 2) rfl ?_); have hfr := free4 BKr.out; obtain ⟨f0, f1, f2, f3⟩ := hfr; refine store4_event rfl rfl rfl (g := gr) (.int .i64 d3) (.int .i64 d1) (.int .i64 d4) (.int .i64 d2) BKr.out (by first | (go_simp; done) | (go_simp; rfl)) ?_; intro wrb bk hc; clear f0 f1 f2 f3; replace BKb := Lib.hid (blk_chg BKb.out hc (fun e => Nat.ne_of_lt Lbr.out e)); replace BKp := Lib.hid (blk_chg BKp.out hc (fun e => Nat.ne_of_lt Lrp.out e.symm)); replace HB := Lib.hid (below_chg HB.out HB.out.size hc (fun k e => e ▸ GEr.out)); replace BKr := Lib.hid bk; clear b0 b1 b2 b3 b4; clear r0 r1 r2 r3; clear p0 p1 p2 p3; obtain ⟨b0, b1, b2, b3, b4⟩ := cells5 BKb.out; obtain ⟨r0, r1, r2, r3⟩ := cells4 BKr.out; obtain ⟨p0, p1, p2, p3⟩ := cells4 BKp.out; clear bk hc; have T12 : True := trivial))
      exact bodyPost_ret (results_ct rfl _ _ gr 28 _ (0, 0) _ rfl BKr.out Try.underlying28 rfl (by kernel_rfl)) rfl ⟨by rw [HE.out]; rfl, HB.out⟩
  · have he1 : ft.toList.isEmpty = false := by cases h : ft.toList with | nil => exact absurd h he | cons => rfl
    have he2 : (ft.toList == ([] : List UInt8)) = false := by cases h : ft.toList with | nil => exact absurd h he | cons => rfl
    have he3 : (ft.toList != ([] : List UInt8)) = true := by cases h : ft.toList with | nil => exact absurd h he | cons => rfl
    have hE : paceE x = (0, 0, 0, 0, ft) := by
      unfold paceE
      by_cases hA : x.f0 = 5 ∧ treeOkK x = true
      · rw [if_pos hA] at hft ⊢
        rw [hft, if_neg (fun e => he ((empty_iff ft).2 e))]
      · rw [if_neg hA] at hft ⊢
        rw [hft]
    have HE := Lib.hid hE
    clear g3 g4 hfit hft hcn ht hE he
    go_enter Try.func6, Try.ntmps6
    go_wp2_with (first
      | (clear T0; (with_reducible refine gate_dst (N := 1) rfl ?_); refine box_event rfl (N := 1) rfl (cs := #[.int .i64 x.f0, .int .i64 x.f1, .string x.f2, .slice A3 x.f3.length c3, .slice A4 x.f4.length c4]) (t := 33) (by first | (go_simp; done) | (go_simp; rfl)) ?_; intro gb hg wba bk hb; have GEb := Lib.hid (Nat.le_trans HB.out.size (Nat.le_of_eq hg.symm)); replace HB := Lib.hid (HB.out.trans (hb.mono HB.out.size)); have BKb := Lib.hid bk; obtain ⟨b0, b1, b2, b3, b4⟩ := cells5 BKb.out; clear hg bk hb; have T1 : True := trivial)
      | (clear T1; (with_reducible refine gate_dst (N := 2) rfl ?_); refine box_event rfl (N := 2) rfl (cs := #[.int .i64 0, .int .i64 0, .int .i64 0, .int .i64 0]) (t := 28) (by first | (go_simp; done) | (go_simp; rfl)) ?_; intro gr hg wra bk hb; have GEr := Lib.hid (Nat.le_trans HB.out.size (Nat.le_of_eq hg.symm)); have Lbr := Lib.hid (Nat.lt_of_lt_of_le (blk_lt BKb.out) (Nat.le_of_eq hg.symm)); replace HB := Lib.hid (HB.out.trans (hb.mono HB.out.size)); replace BKb := Lib.hid (blk_below BKb.out hb); have BKr := Lib.hid bk; clear b0 b1 b2 b3 b4; obtain ⟨b0, b1, b2, b3, b4⟩ := cells5 BKb.out; obtain ⟨r0, r1, r2, r3⟩ := cells4 BKr.out; clear hg bk hb; have T2 : True := trivial)
      | (clear T2; (with_reducible refine gate_dst (N := 15) rfl ?_); refine litN_event rfl (N := 15) rfl 4 4 (cs := #[.string ⟨#[100, 111, 119, 110]⟩, .string ⟨#[100, 111, 119, 110, 115, 112, 97, 110]⟩, .string ⟨#[117, 112]⟩, .string ⟨#[117, 112, 115, 112, 97, 110]⟩]) (t := 9) (by first | (go_simp; done) | (go_simp; rfl)) ?_; intro gKC hg wKCa bk hb; replace HB := Lib.hid (HB.out.trans (hb.mono HB.out.size)); replace BKb := Lib.hid (blk_below BKb.out hb); replace BKr := Lib.hid (blk_below BKr.out hb); have KC := Lib.hid (lits_C4 bk); clear b0 b1 b2 b3 b4; clear r0 r1 r2 r3; obtain ⟨b0, b1, b2, b3, b4⟩ := cells5 BKb.out; obtain ⟨r0, r1, r2, r3⟩ := cells4 BKr.out; clear hg bk hb; have T3 : True := trivial)
      | (clear T3; go_at_call 19; refine (FIT.out _ _ _ _ _ _ (Kd.C_below G3.out HB.out) l3 (Kd.C_below G4.out HB.out) l4 KC.out).mono ?_; rintro e w1 ⟨rfl, hb⟩; replace HB := Lib.hid (HB.out.trans (hb.mono HB.out.size)); replace BKb := Lib.hid (blk_below BKb.out hb); replace BKr := Lib.hid (blk_below BKr.out hb); clear b0 b1 b2 b3 b4; clear r0 r1 r2 r3; obtain ⟨b0, b1, b2, b3, b4⟩ := cells5 BKb.out; obtain ⟨r0, r1, r2, r3⟩ := cells4 BKr.out; clear hb; clear KC; have T4 : True := trivial)
      | (clear T4; (with_reducible refine gate_store (p := 2) rfl ?_); have hfr := free4 BKr.out; obtain ⟨f0, f1, f2, f3⟩ := hfr; refine store4_event rfl rfl rfl (g := gr) (.int .i64 0) (.int .i64 0) (.int .i64 0) (.int .i64 0) BKr.out (by first | (go_simp; done) | (go_simp; rfl)) ?_; intro wrb bk hc; clear f0 f1 f2 f3; replace BKb := Lib.hid (blk_chg BKb.out hc (fun e => Nat.ne_of_lt Lbr.out e)); replace HB := Lib.hid (below_chg HB.out HB.out.size hc (fun k e => e ▸ GEr.out)); replace BKr := Lib.hid bk; clear b0 b1 b2 b3 b4; clear r0 r1 r2 r3; obtain ⟨b0, b1, b2, b3, b4⟩ := cells5 BKb.out; obtain ⟨r0, r1, r2, r3⟩ := cells4 BKr.out; clear bk hc; have T5 : True := trivial))
    exact bodyPost_ret (results_ct rfl _ _ gr 28 _ (0, 0) _ rfl BKr.out Try.underlying28 rfl (by kernel_rfl)) rfl ⟨by rw [HE.out]; rfl, HB.out⟩
end Go.Proofs.Ytdlhidjphaaklaa.H
