/- Marks are found again: what heldNode answers of a tree that was marked. -/
import Derived.Test.YtnbnpgjgibcmpaaAid
import Derived.Test.YtnbnpgjgibcmpaaCopy
import Derived.Test.YtnbnpgjgibcmpaaEv
import Derived.Test.YtnbnpgjgibcmpaaLists
import Derived.Test.YtnbnpgjgibcmpaaMark
import Derived.Test.YtnbnpgjgibcmpaaOwn
import Derived.Test.YtnbnpgjgibcmpaaP_laws_markNode
namespace Go.Proofs.Ytnbnpgjgibcmpaa.H
open Go.RowKit Go.Proofs.Ytnbnpgjgibcmpaa.P Go.Proofs.YtnbnpgjgibcmpaaW.PrintWords Go.Proofs.Ytnbnpgjgibcmpaa.M
set_option linter.unusedVariables false

theorem ev_loop {β σ : Type} {n : Nat} {l0 : Nat → σ → Int → Option β} (S : Nat → σ) {r : β} (hend : Ev (fun k => l0 k (S n) (n : Int)) r)
    (hstep : ∀ i, i < n → Ev (fun k => l0 k (S (i + 1)) ((i + 1 : Nat) : Int)) r → Ev (fun k => l0 k (S i) (i : Int)) r) : Ev (fun k => l0 k (S 0) 0) r := by
  have key : ∀ d i, i + d = n → Ev (fun k => l0 k (S i) (i : Int)) r := by
    intro d
    induction d with
    | zero => intro i hi; obtain rfl : i = n := by omega
              exact hend
    | succ d ih => intro i hi; exact hstep i (by omega) (ih (i + 1) (by omega))
  exact key n 0 (by omega)
theorem mt_ev {n : Int} (h : n ≤ 4611686018427387904) : Ev (fun k => laws_markText.f k n) (mt n) := by
  obtain ⟨k, hk⟩ := mt_is h
  exact Ev.of (fun k => laws_markText.mono _ k) hk
theorem heldS_ev (xs : List ByteArray) (k0 : Int) (h : xs = mkS xs.length k0) (h0 : 0 ≤ k0) (hb : k0 + (xs.length : Nat) ≤ 4611686018427387904) (hl : xs.length ≤ 1099511627776) : Ev (fun k => laws_heldStringS.f k xs k0) (k0 + (xs.length : Nat)) := by
  unfold laws_heldStringS.f
  have hx : ∀ i (hi : i < xs.length), xs[i] = mt (k0 + (i : Nat)) := by
    intro i hi
    have e : xs[i]? = (mkS xs.length k0)[i]? := by rw [← h]
    rw [List.getElem?_eq_getElem hi] at e
    simp [mkS, List.getElem?_range hi] at e
    exact e
  have := ev_loop (n := xs.length) (l0 := fun k (s : Int) i => laws_heldStringS.l0 k xs s i) (S := fun i => k0 + (i : Nat)) (r := k0 + (xs.length : Nat)) ?_ ?_
  · simpa using this
  · refine Ev.step (f := fun _ => some (k0 + (xs.length : Nat))) (fun k => ?_) (Ev.now _)
    simp only [laws_heldStringS.l0]
    rw [if_neg (by omega)]
  · intro i hi ih
    refine Ev.step (f := fun k => (laws_markText.f k (k0 + (i : Nat))).bind fun t116 => (if (rdOf ByteArray.empty xs (i : Int)).toList = t116.toList then (laws_heldStringS.l0 k xs (wrap64 (k0 + (i : Nat) + 1)) (wrap64 ((i : Int) + 1))) else (some (-1)))) (fun k => ?_) ?_
    · simp only [laws_heldStringS.l0]
      rw [if_pos (by omega), if_pos (by omega)]
    · refine Ev.bind (mt_ev (by omega)) ?_
      have e : rdOf ByteArray.empty xs (i : Int) = mt (k0 + (i : Nat)) := by
        show xs.getD i _ = _
        rw [List.getD_eq_getElem?_getD, List.getElem?_eq_getElem hi]
        exact hx i hi
      rw [e, wsucc (by omega), w64 (by omega) (by omega)]
      simp only [if_true]
      rw [show k0 + (i : Nat) + 1 = k0 + ((i + 1 : Nat) : Int) by omega]
      exact ih
theorem heldN_ev : ∀ (N : Nat) (kids : List S25) (k0 : Int), (kids.map cntK).sum ≤ N → MkL kids k0 → 0 ≤ k0 → k0 + ((kids.map cntK).sum : Nat) ≤ 4611686018427387904 → N ≤ 1099511627776 → Ev (fun k => laws_heldNodeS.f k kids k0) (k0 + ((kids.map cntK).sum : Nat)) := by
  intro N
  induction N using Nat.strongRecOn with
  | _ N IH =>
  intro kids k0 hN hm h0 hb hbN
  have hl := len_cnt kids
  refine Ev.step (f := fun k => laws_heldNodeS.l0 k kids k0 0) (fun k => by simp only [laws_heldNodeS.f]) ?_
  have := ev_loop (n := kids.length) (l0 := fun k (s : Int) i => laws_heldNodeS.l0 k kids s i) (S := fun i => k0 + (((kids.take i).map cntK).sum : Nat)) (r := k0 + ((kids.map cntK).sum : Nat)) ?_ ?_
  · simpa using this
  · refine Ev.step (f := fun _ => some (k0 + ((kids.map cntK).sum : Nat))) (fun k => ?_) (Ev.now _)
    simp only [laws_heldNodeS.l0]
    rw [if_neg (by omega), List.take_of_length_le (Nat.le_refl _)]
  · intro i hi ih
    have hc := cnt_mem hi
    have hs := cnt_take_succ hi
    have hk := (MkT_iff _ _).1 (hm i hi)
    have hcx := cntK_eq kids[i]
    generalize hkx : k0 + (((kids.take i).map cntK).sum : Nat) = kx at hk ⊢
    obtain ⟨e0, e1, e2, e3, e4⟩ := hk
    have er : rd_T25 kids (i : Int) = kids[i] := rdT2 kids i hi
    have i2 : wrap64 (wrap64 (kx + 1) + 1) = kx + 2 := by rw [w64 (i := kx + 1) (by omega) (by omega), w64 (by omega) (by omega)]; omega
    have i3 : wrap64 (kx + 2 + 1) = kx + 3 := by rw [w64 (by omega) (by omega)]; omega
    refine Ev.step (f := fun k => ((laws_markText.f k (kx + 2)).bind fun t120 => (if (kids[i].f2).toList = t120.toList then ((laws_heldStringS.f k (kids[i].f3) (kx + 3)).bind fun t122 => (if t122 < 0 then (some (-1)) else ((laws_heldNodeS.f k (kids[i].f4) t122).bind fun t124 => (if t124 < 0 then (some (-1)) else (laws_heldNodeS.l0 k kids t124 (wrap64 ((i : Int) + 1))))))) else (some (-1))))) (fun k => ?_) ?_
    · simp only [laws_heldNodeS.l0]
      rw [if_pos (by omega), if_pos (by omega), er, if_pos e0, if_pos (by rw [e1, w64 (by omega) (by omega)]), i2, i3]
    · refine Ev.bind (mt_ev (by omega)) ?_
      refine Ev.congr (fun k => if_pos (by rw [e2])) ?_
      refine Ev.bind (heldS_ev _ _ e3 (by omega) (by omega) (by omega)) ?_
      refine Ev.congr (fun k => if_neg (by omega)) ?_
      refine Ev.bind (IH (kids[i].f4.map cntK).sum (by omega) kids[i].f4 _ (Nat.le_refl _) e4 (by omega) (by omega) (by omega)) ?_
      refine Ev.congr (fun k => if_neg (by omega)) ?_
      rw [wsucc (by omega)]
      have e : kx + 3 + (kids[i].f3.length : Nat) + ((kids[i].f4.map cntK).sum : Nat) = k0 + (((kids.take (i + 1)).map cntK).sum : Nat) := by omega
      rw [e]
      exact ih
/-- A tree by itself that was marked from k on. -/
theorem held_ev (x : S25) (k0 : Int) (h : MkTop x k0) (h0 : 0 ≤ k0) (hb : k0 + (cntTop x : Nat) ≤ 4611686018427387904) (hl : cntTop x ≤ 1099511627776) : Ev (fun k => laws_heldNode.f k x.f0 x.f1 x.f2 x.f3 x.f4 k0) (k0 + (cntTop x : Nat)) := by
  unfold cntTop at hb hl
  refine Ev.congr (f := fun k => (laws_heldStringS.f k x.f3 k0).bind fun t => if t < 0 then some (-1) else (laws_heldNodeS.f k x.f4 t).bind fun t2 => if t2 < 0 then some (-1) else some t2) (fun k => by unfold laws_heldNode.f; rfl) ?_
  refine Ev.bind (heldS_ev _ _ h.1 (by omega) (by omega) (by omega)) ?_
  refine Ev.congr (fun k => if_neg (by omega)) ?_
  refine Ev.bind (heldN_ev _ _ _ (Nat.le_refl _) h.2 (by omega) (by omega) (by omega)) ?_
  refine Ev.congr (fun k => if_neg (by omega)) ?_
  unfold cntTop
  rw [show k0 + ((x.f3.length + (x.f4.map cntK).sum : Nat) : Int) = k0 + (x.f3.length : Nat) + ((x.f4.map cntK).sum : Nat) by omega]
  exact Ev.now _
end Go.Proofs.Ytnbnpgjgibcmpaa.H
