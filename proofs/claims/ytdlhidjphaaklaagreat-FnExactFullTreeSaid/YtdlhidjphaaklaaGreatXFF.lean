/- Part 6 of the proof of the law FnExactFullTree: what it leans on, in build order. No condition. (Merged by wip/reap.py.) -/
import Derived.Test.YtdlhidjphaaklaaGreatXFE
import Derived.Test.YtdlhidjphaaklaaGreatRows
import Derived.ProofKit
import Derived.OpenShut
import Derived.ChangeOld
import Derived.ChangeSlices
import Derived.DataReads
import Derived.SizedLaws
import Derived.Deep.RegionHeld3
import Derived.JoinedOf
import Derived.KernelRfl
set_option linter.unusedVariables false
set_option linter.unusedSimpArgs false
section
namespace Go.Proofs.YtdlhidjphaaklaaGreat.H
open Go.RowKit Go.Proofs.YtdlhidjphaaklaaGreat.P Go.Proofs.YtdlhidjphaaklaaGreatW.PrintWords Go.Proofs.YtdlhidjphaaklaaGreat.M
theorem fullI_calls (n t : ByteArray) (lo hi : Int) (ms : List S61) (p0 p1 p2 p3 : Int) (ns : List S124) (h1 : n.size ≤ 1048576) (h2 : t.size ≤ 1048576) (h3 : ms.length ≤ 1048576) (h4 : ∀ m ∈ ms, m.f0.size ≤ 1048576) (h5 : ns.length ≤ 1048576) (h6 : ∀ m ∈ ns, m.f0.size ≤ 1048576 ∧ m.f1.size ≤ 1048576) (w : World) (A4 A9 : Option Addr) (n4 n9 : Nat) (h : OR w (.slice A4 ms.length n4) (.slice A9 ns.length n9) ms ns) :
    Calls Tryz.prog 20 #[.agg #[.string n, .string t, .int .i64 lo, .int .i64 hi, .slice A4 ms.length n4, .int .i64 p0, .int .i64 p1, .int .i64 p2, .int .i64 p3, .slice A9 ns.length n9]] w fun e w' => Made w (fullV n t lo hi ms p0 p1 p2 p3 ns) e w' := by
  obtain ⟨k, hk⟩ := (impl_full_ev n t lo hi ms p0 p1 p2 p3 ns h1 h2 h3 h4 h5 h6).rounds
  exact V.impl_FullTree_made hk (ord_reps h)
theorem fullS_calls (n t : ByteArray) (lo hi : Int) (ms : List S61) (p0 p1 p2 p3 : Int) (ns : List S124) (h1 : n.size ≤ 1048576) (h2 : t.size ≤ 1048576) (h3 : ms.length ≤ 1048576) (h4 : ∀ m ∈ ms, m.f0.size ≤ 1048576) (h5 : ns.length ≤ 1048576) (h6 : ∀ m ∈ ns, m.f0.size ≤ 1048576 ∧ m.f1.size ≤ 1048576) (w : World) (A4 A9 : Option Addr) (n4 n9 : Nat) (h : OR w (.slice A4 ms.length n4) (.slice A9 ns.length n9) ms ns) :
    Calls Tryz.prog 18 #[.agg #[.string n, .string t, .int .i64 lo, .int .i64 hi, .slice A4 ms.length n4, .int .i64 p0, .int .i64 p1, .int .i64 p2, .int .i64 p3, .slice A9 ns.length n9]] w fun e w' => ∃ v3 v4, e = .returned (.agg #[.int .i64 (fullV n t lo hi ms p0 p1 p2 p3 ns).f0, .int .i64 (fullV n t lo hi ms p0 p1 p2 p3 ns).f1, .string (fullV n t lo hi ms p0 p1 p2 p3 ns).f2, v3, v4]) ∧ Seen w' v3 v4 (fullV n t lo hi ms p0 p1 p2 p3 ns) ∧ Below w.heap.size w w' := by
  obtain ⟨k, hk⟩ := (spec_full_ev n t lo hi ms p0 p1 p2 p3 ns h1 h2 h3 h4 h5 h6).rounds
  refine (V.fn_calls (V.spec_FullTree_fn hk) (ord_reps h)).mono ?_
  rintro e w' ⟨v, F, gs, rfl, hr, hb⟩
  obtain ⟨v3, v4, rfl, hs⟩ := node_seen hr
  exact ⟨v3, v4, rfl, hs, hb⟩
theorem cnt_fullV (n t : ByteArray) (lo hi : Int) (ms : List S61) (p0 p1 p2 p3 : Int) (ns : List S124) (h3 : ms.length ≤ 1048576) (h5 : ns.length ≤ 1048576) : cntTop (fullV n t lo hi ms p0 p1 p2 p3 ns) ≤ 19923000 := by
  unfold fullV
  split
  · exact (cnt_full n t lo hi ms p0 p1 p2 p3 ns h3 h5).2.2
  · simp [node0, cntTop]
end Go.Proofs.YtdlhidjphaaklaaGreat.H
end
section
namespace Go.Proofs.YtdlhidjphaaklaaGreat.H
open Go.RowKit Go.Proofs.YtdlhidjphaaklaaGreat.P Go.Proofs.YtdlhidjphaaklaaGreatW.PrintWords Go.Proofs.YtdlhidjphaaklaaGreat.M
theorem heldS_ev (xs : List ByteArray) (k0 : Int) (h : xs = mkS xs.length k0) (h0 : 0 ≤ k0) (hb : k0 + (xs.length : Nat) ≤ 4611686018427387904) (hl : xs.length ≤ 1099511627776) : Ev (fun k => laws_heldStringS.f k xs k0) (k0 + (xs.length : Nat)) := by
  unfold laws_heldStringS.f
  have hx : ∀ i (hi : i < xs.length), xs[i] = mt (k0 + (i : Nat)) := by
    intro i hi
    have e : xs[i]? = (mkS xs.length k0)[i]? := by rw [← h]
    rw [List.getElem?_eq_getElem hi] at e
    simp [mkS, List.getElem?_range hi] at e
    exact e
  have := ev_loop (n := xs.length) (l0 := fun k (s : Int) i => laws_heldStringS.l0 k xs s i) (S := fun i => k0 + (i : Nat)) (r := k0 + (xs.length : Nat)) ?_ ?_
  · simpa using this
  · refine Ev.step (f := fun _ => some (k0 + (xs.length : Nat))) (fun k => ?_) (Ev.now _)
    simp only [laws_heldStringS.l0]
    rw [if_neg (by omega)]
  · intro i hi ih
    refine Ev.step (f := fun k => (laws_markText.f k (k0 + (i : Nat))).bind fun t116 => (if (rdOf ByteArray.empty xs (i : Int)).toList = t116.toList then (laws_heldStringS.l0 k xs (wrap64 (k0 + (i : Nat) + 1)) (wrap64 ((i : Int) + 1))) else (some (-1)))) (fun k => ?_) ?_
    · simp only [laws_heldStringS.l0]
      rw [if_pos (by omega), if_pos (by omega)]
    · refine Ev.bind (mt_ev (by omega)) ?_
      have e : rdOf ByteArray.empty xs (i : Int) = mt (k0 + (i : Nat)) := by
        show xs.getD i _ = _
        rw [List.getD_eq_getElem?_getD, List.getElem?_eq_getElem hi]
        exact hx i hi
      rw [e, wsucc (by omega), w64 (by omega) (by omega)]
      simp only [if_true]
      rw [show k0 + (i : Nat) + 1 = k0 + ((i + 1 : Nat) : Int) by omega]
      exact ih
theorem heldN_ev : ∀ (N : Nat) (kids : List S32) (k0 : Int), (kids.map cntK).sum ≤ N → MkL kids k0 → 0 ≤ k0 → k0 + ((kids.map cntK).sum : Nat) ≤ 4611686018427387904 → N ≤ 1099511627776 → Ev (fun k => laws_heldNodeS.f k kids k0) (k0 + ((kids.map cntK).sum : Nat)) := by
  intro N
  induction N using Nat.strongRecOn with
  | _ N IH =>
  intro kids k0 hN hm h0 hb hbN
  have hl := len_cnt kids
  refine Ev.step (f := fun k => laws_heldNodeS.l0 k kids k0 0) (fun k => by simp only [laws_heldNodeS.f]) ?_
  have := ev_loop (n := kids.length) (l0 := fun k (s : Int) i => laws_heldNodeS.l0 k kids s i) (S := fun i => k0 + (((kids.take i).map cntK).sum : Nat)) (r := k0 + ((kids.map cntK).sum : Nat)) ?_ ?_
  · simpa using this
  · refine Ev.step (f := fun _ => some (k0 + ((kids.map cntK).sum : Nat))) (fun k => ?_) (Ev.now _)
    simp only [laws_heldNodeS.l0]
    rw [if_neg (by omega), List.take_of_length_le (Nat.le_refl _)]
  · intro i hi ih
    have hc := cnt_mem hi
    have hs := cnt_take_succ hi
    have hk := (MkT_iff _ _).1 (hm i hi)
    have hcx := cntK_eq kids[i]
    generalize hkx : k0 + (((kids.take i).map cntK).sum : Nat) = kx at hk ⊢
    obtain ⟨e0, e1, e2, e3, e4⟩ := hk
    have er : rd_T32 kids (i : Int) = kids[i] := rdT2 kids i hi
    have i2 : wrap64 (wrap64 (kx + 1) + 1) = kx + 2 := by rw [w64 (i := kx + 1) (by omega) (by omega), w64 (by omega) (by omega)]; omega
    have i3 : wrap64 (kx + 2 + 1) = kx + 3 := by rw [w64 (by omega) (by omega)]; omega
    refine Ev.step (f := fun k => ((laws_markText.f k (kx + 2)).bind fun t120 => (if (kids[i].f2).toList = t120.toList then ((laws_heldStringS.f k (kids[i].f3) (kx + 3)).bind fun t122 => (if t122 < 0 then (some (-1)) else ((laws_heldNodeS.f k (kids[i].f4) t122).bind fun t124 => (if t124 < 0 then (some (-1)) else (laws_heldNodeS.l0 k kids t124 (wrap64 ((i : Int) + 1))))))) else (some (-1))))) (fun k => ?_) ?_
    · simp only [laws_heldNodeS.l0]
      rw [if_pos (by omega), if_pos (by omega), er, if_pos e0, if_pos (by rw [e1, w64 (by omega) (by omega)]), i2, i3]
    · refine Ev.bind (mt_ev (by omega)) ?_
      refine Ev.congr (fun k => if_pos (by rw [e2])) ?_
      refine Ev.bind (heldS_ev _ _ e3 (by omega) (by omega) (by omega)) ?_
      refine Ev.congr (fun k => if_neg (by omega)) ?_
      refine Ev.bind (IH (kids[i].f4.map cntK).sum (by omega) kids[i].f4 _ (Nat.le_refl _) e4 (by omega) (by omega) (by omega)) ?_
      refine Ev.congr (fun k => if_neg (by omega)) ?_
      rw [wsucc (by omega)]
      have e : kx + 3 + (kids[i].f3.length : Nat) + ((kids[i].f4.map cntK).sum : Nat) = k0 + (((kids.take (i + 1)).map cntK).sum : Nat) := by omega
      rw [e]
      exact ih
theorem held_ev (x : S32) (k0 : Int) (h : MkTop x k0) (h0 : 0 ≤ k0) (hb : k0 + (cntTop x : Nat) ≤ 4611686018427387904) (hl : cntTop x ≤ 1099511627776) : Ev (fun k => laws_heldNode.f k x.f0 x.f1 x.f2 x.f3 x.f4 k0) (k0 + (cntTop x : Nat)) := by
  unfold cntTop at hb hl
  refine Ev.congr (f := fun k => (laws_heldStringS.f k x.f3 k0).bind fun t => if t < 0 then some (-1) else (laws_heldNodeS.f k x.f4 t).bind fun t2 => if t2 < 0 then some (-1) else some t2) (fun k => by unfold laws_heldNode.f; rfl) ?_
  refine Ev.bind (heldS_ev _ _ h.1 (by omega) (by omega) (by omega)) ?_
  refine Ev.congr (fun k => if_neg (by omega)) ?_
  refine Ev.bind (heldN_ev _ _ _ (Nat.le_refl _) h.2 (by omega) (by omega) (by omega)) ?_
  refine Ev.congr (fun k => if_neg (by omega)) ?_
  unfold cntTop
  rw [show k0 + ((x.f3.length + (x.f4.map cntK).sum : Nat) : Int) = k0 + (x.f3.length : Nat) + ((x.f4.map cntK).sum : Nat) by omega]
  exact Ev.now _
end Go.Proofs.YtdlhidjphaaklaaGreat.H
end
section
namespace Go.Proofs.YtdlhidjphaaklaaGreat.M
open Go.RowKit Go.Proofs.YtdlhidjphaaklaaGreat.P Go.Proofs.YtdlhidjphaaklaaGreatW.PrintWords
def rnd : S32 → Nat
  | ⟨_, _, _, ks, kids⟩ => 5 + ks.length + kids.length + (kids.attach.map fun x => rnd x.1).sum
termination_by x => SizeOf.sizeOf x
decreasing_by
  have := List.sizeOf_lt_of_mem x.2
  simp only [S32.mk.sizeOf_spec]
  omega
theorem rnd_eq (a : S32) : rnd a = 5 + a.f3.length + a.f4.length + (a.f4.map rnd).sum := by
  obtain ⟨f0, f1, f2, f3, f4⟩ := a
  rw [rnd]
  congr 1
  simp
theorem rnd_kid {a x : S32} (h : x ∈ a.f4) : rnd x + 5 + a.f3.length + a.f4.length ≤ rnd a := by
  have := mem_le_sum rnd a.f4 x h
  rw [rnd_eq a]; omega
noncomputable def dec (p : Prop) : Bool := @decide p (Classical.propDecidable p)
theorem dec_iff {p : Prop} : dec p = true ↔ p := @decide_eq_true_iff p (Classical.propDecidable p)
theorem dec_true {p : Prop} (h : p) : dec p = true := dec_iff.2 h
theorem dec_false {p : Prop} (h : ¬ p) : dec p = false := by cases e : dec p with | false => rfl | true => exact absurd (dec_iff.1 e) h
theorem dec_cong {p q : Prop} (h : p ↔ q) : dec p = dec q := by rw [propext h]
theorem getD_at' {α : Type} (xs : List α) (z : α) (i : Nat) (h : i < xs.length) : xs.getD i z = xs[i] := by rw [List.getD_eq_getElem?_getD, List.getElem?_eq_getElem h]; rfl
theorem list_eq_all {α : Type} (z : α) (xs ys : List α) (h : xs.length = ys.length) : (List.range' 0 xs.length).all (fun i => dec (xs.getD i z = ys.getD i z)) = dec (xs = ys) := by
  by_cases e : xs = ys
  · subst e; rw [dec_true rfl, List.all_eq_true]; intro i _; exact dec_true rfl
  · rw [dec_false e]
    cases hc : (List.range' 0 xs.length).all (fun i => dec (xs.getD i z = ys.getD i z)) with
    | false => rfl
    | true =>
      exfalso
      apply e
      apply List.ext_getElem h
      intro i h1 h2
      have := dec_iff.1 (List.all_eq_true.1 hc i (by rw [List.mem_range']; exact ⟨i, h1, by omega⟩))
      rwa [getD_at' xs z i h1, getD_at' ys z i h2] at this
theorem scanEq {α : Type} {g : Nat → Int → Option Bool} {K : Nat} {e : Bool} (z : α) (xs ys : List α) (h : xs.length = ys.length) (hend : ∀ k, K ≤ k → g (k + 1) (xs.length : Int) = some e)
    (hs1 : ∀ k (i : Nat), K ≤ k → i < xs.length → xs.getD i z = ys.getD i z → g (k + 1) (i : Int) = g k ((i + 1 : Nat) : Int)) (hs2 : ∀ k (i : Nat), K ≤ k → i < xs.length → xs.getD i z ≠ ys.getD i z → g (k + 1) (i : Int) = some false)
    (k : Nat) (hk : xs.length + K < k) : g k 0 = some (dec (xs = ys) && e) := by
  have q := scanK (g := g) (n := xs.length) (K := K) (P := fun i => dec (xs.getD i z = ys.getD i z)) (e := e) hend
    (fun k i hk hi => by
      by_cases c : xs.getD i z = ys.getD i z
      · rw [hs1 k i hk hi c, dec_true c, if_pos rfl]
      · rw [hs2 k i hk hi c, dec_false c, if_neg (by decide)]) xs.length 0 k (by omega) hk
  have e0 : ((0 : Nat) : Int) = 0 := rfl
  rw [e0, list_eq_all z xs ys h] at q
  exact q
theorem rdS (xs : List ByteArray) (i : Nat) : rdOf ByteArray.empty xs (i : Int) = xs.getD i ByteArray.empty := rfl
theorem rdT (xs : List S32) (i : Nat) : rd_T32 xs (i : Int) = xs.getD i z32 := rfl
theorem eqStrings_eq (xs ys : List ByteArray) (hl : xs.length ≤ 1099511627776) (k : Nat) (hk : xs.length < k) : laws_eqStringS.f k xs ys = some (dec (xs = ys)) := by
  unfold laws_eqStringS.f
  by_cases h : xs.length = ys.length
  · rw [if_pos (by omega), scanEq (g := fun k i => laws_eqStringS.l0 k xs ys i) (K := 0) (e := true) ByteArray.empty xs ys h (fun k _ => by simp only [laws_eqStringS.l0]; rw [if_neg (by omega)])
      (fun k i _ hi c => by
        simp only [laws_eqStringS.l0]
        rw [if_pos (by omega), if_pos (by omega), if_pos (by omega), rdS, rdS, if_pos (tlb.2 c), wsucc (by omega)])
      (fun k i _ hi c => by
        simp only [laws_eqStringS.l0]
        rw [if_pos (by omega), if_pos (by omega), if_pos (by omega), rdS, rdS, if_neg (fun e => c (tlb.1 e))]) k (by omega), Bool.and_true]
  · rw [if_neg (by omega), dec_false (fun e => h (by rw [e]))]
theorem node_ext (a b : S32) : a = b ↔ a.f0 = b.f0 ∧ a.f1 = b.f1 ∧ a.f2 = b.f2 ∧ a.f3 = b.f3 ∧ a.f4 = b.f4 := by
  constructor
  · rintro rfl; exact ⟨rfl, rfl, rfl, rfl, rfl⟩
  · obtain ⟨a0, a1, a2, a3, a4⟩ := a; obtain ⟨b0, b1, b2, b3, b4⟩ := b; rintro ⟨rfl, rfl, rfl, rfl, rfl⟩; rfl
theorem eqNode_eq : ∀ (n : Nat) (a b : S32), rnd a ≤ n → n ≤ 1099511627776 → ∀ k, n < k → laws_eqNode.f k a.f0 a.f1 a.f2 a.f3 a.f4 b.f0 b.f1 b.f2 b.f3 b.f4 = some (dec (a = b)) := by
  intro n
  induction n using Nat.strongRecOn with
  | _ n ih =>
    intro a b hn hN k hk
    have ra := rnd_eq a
    obtain ⟨k, rfl⟩ : ∃ m, k = m + 2 := ⟨k - 2, by omega⟩
    have kids : laws_eqNodeS.f (k + 1) a.f4 b.f4 = some (dec (a.f4 = b.f4)) := by
      simp only [laws_eqNodeS.f]
      by_cases h : a.f4.length = b.f4.length
      · have kid : ∀ k (i : Nat) (hi : i < a.f4.length), (a.f4.map rnd).sum + 1 ≤ k → laws_eqNode.f k (a.f4.getD i z32).f0 (a.f4.getD i z32).f1 (a.f4.getD i z32).f2 (a.f4.getD i z32).f3 (a.f4.getD i z32).f4 (b.f4.getD i z32).f0 (b.f4.getD i z32).f1 (b.f4.getD i z32).f2 (b.f4.getD i z32).f3 (b.f4.getD i z32).f4 = some (dec (a.f4.getD i z32 = b.f4.getD i z32)) := by
          intro k i hi hk
          have hm : a.f4.getD i z32 ∈ a.f4 := by rw [getD_at' _ _ _ hi]; exact List.getElem_mem hi
          have := rnd_kid hm
          have := mem_le_sum rnd a.f4 _ hm
          exact ih (rnd (a.f4.getD i z32)) (by omega) _ _ (Nat.le_refl _) (by omega) k (by omega)
        rw [if_pos (by omega), scanEq (g := fun k i => laws_eqNodeS.l0 k a.f4 b.f4 i) (K := (a.f4.map rnd).sum + 1) (e := true) z32 a.f4 b.f4 h (fun k _ => by simp only [laws_eqNodeS.l0]; rw [if_neg (by omega)])
          (fun k i hk hi c => by
            simp only [laws_eqNodeS.l0]
            rw [if_pos (by omega), if_pos (by omega), if_pos (by omega), rdT, rdT, kid k i hi hk, Option.bind_some, dec_true c, if_pos rfl, wsucc (by omega)])
          (fun k i hk hi c => by
            simp only [laws_eqNodeS.l0]
            rw [if_pos (by omega), if_pos (by omega), if_pos (by omega), rdT, rdT, kid k i hi hk, Option.bind_some, dec_false c, if_neg (by decide)]) k (by omega), Bool.and_true]
      · rw [if_neg (by omega), dec_false (fun e => h (by rw [e]))]
    simp only [laws_eqNode.f]
    rw [eqStrings_eq _ _ (by omega) _ (by omega), kids]
    simp only [Option.bind_some, tlb, dec_iff]
    rw [dec_cong (node_ext a b)]
    by_cases c0 : a.f0 = b.f0
    · by_cases c1 : a.f1 = b.f1
      · by_cases c2 : a.f2 = b.f2
        · by_cases c3 : a.f3 = b.f3
          · by_cases c4 : a.f4 = b.f4
            · rw [if_pos c0, if_pos c1, if_pos c2, if_pos c3, if_pos (dec_iff.2 c4), dec_true ⟨c0, c1, c2, c3, c4⟩]
            · rw [if_pos c0, if_pos c1, if_pos c2, if_pos c3, if_neg (fun e => c4 (dec_iff.1 e)), dec_false (fun e => c4 e.2.2.2.2)]
          · rw [if_pos c0, if_pos c1, if_pos c2, if_neg c3, dec_false (fun e => c3 e.2.2.2.1)]
        · rw [if_pos c0, if_pos c1, if_neg c2, dec_false (fun e => c2 e.2.2.1)]
      · rw [if_pos c0, if_neg c1, dec_false (fun e => c1 e.2.1)]
    · rw [if_neg c0, dec_false (fun e => c0 e.1)]
end Go.Proofs.YtdlhidjphaaklaaGreat.M
end
section
namespace Go.Proofs.YtdlhidjphaaklaaGreat.H
open Go.RowKit Go.Proofs.YtdlhidjphaaklaaGreat.P Go.Proofs.YtdlhidjphaaklaaGreatW.PrintWords Go.Proofs.YtdlhidjphaaklaaGreat.M
theorem rnd_cntK (x : S32) : rnd x + 1 ≤ 2 * cntK x := by
  refine tree_ind (P := fun x => rnd x + 1 ≤ 2 * cntK x) (fun x ih => ?_) x
  rw [rnd_eq, cntK_eq]
  have : ∀ l : List S32, (∀ y ∈ l, rnd y + 1 ≤ 2 * cntK y) → (l.map rnd).sum + l.length ≤ 2 * (l.map cntK).sum := by
    intro l
    induction l with
    | nil => intro _; simp
    | cons y ys ihl =>
      intro h
      have h1 := h y (by simp)
      have h2 := ihl (fun z hz => h z (by simp [hz]))
      simp only [List.map_cons, List.sum_cons, List.length_cons]
      omega
  have := this x.f4 ih
  omega
theorem rnd_cnt (x : S32) : rnd x ≤ 2 * cntTop x + 5 := by
  have h := rnd_cntK x
  rw [cntK_eq] at h
  unfold cntTop
  omega
theorem eq_ev (x : S32) (h : cntTop x ≤ 549755813880) : Ev (fun k => laws_eqNode.f k x.f0 x.f1 x.f2 x.f3 x.f4 x.f0 x.f1 x.f2 x.f3 x.f4) true := by
  have h1 := rnd_cnt x
  have := Ev.past (fun k hk => eqNode_eq (rnd x) x x (Nat.le_refl _) (by omega) k hk)
  rwa [dec_true rfl] at this
theorem eqN_calls (x : S32) (h : cntTop x ≤ 549755813880) {w : World} {v3 v4 u3 u4 : Value} (h1 : Seen w v3 v4 x) (h2 : Seen w u3 u4 x) :
    Calls Tryz.prog 13 #[.agg #[.int .i64 x.f0, .int .i64 x.f1, .string x.f2, v3, v4], .agg #[.int .i64 x.f0, .int .i64 x.f1, .string x.f2, u3, u4]] w fun e w' => e = .returned (.bool true) ∧ Below w.heap.size w w' := by
  obtain ⟨A3, c3, A4, c4, rfl, rfl, g3, l3, g4, l4⟩ := h1
  obtain ⟨B3, d3, B4, d4, rfl, rfl, p3, q3, p4, q4⟩ := h2
  obtain ⟨k, hk⟩ := (eq_ev x h).rounds
  exact laws_eqNode.calls k _ _ _ _ _ _ _ _ _ _ _ _ _ _ _ _ _ _ true w g3 l3 g4 l4 p3 q3 p4 q4 hk
theorem markTop_calls (x : S32) (n : Nat) (hn : cntTop x = n) {v3 v4 : Value} {fss : List (List Nat)} {w : World} (h : Top w v3 v4 x fss) (hl : n ≤ 549755813880) :
    Calls Tryz.prog 14 #[.agg #[.int .i64 x.f0, .int .i64 x.f1, .string x.f2, v3, v4], .int .i64 1] w fun e w' => ∃ x' : S32, e = .returned (.int .i64 (1 + (n : Nat))) ∧ cntTop x' = n ∧ MkTop x' 1 ∧ Top w' v3 v4 x' fss ∧ Chg (fun k => k ∈ topFp v3 v4 fss ∨ w.heap.size ≤ k) w w' :=
  (mark_calls x v3 v4 fss 1 w h (by decide) (by omega)).mono fun e w' ⟨x', he, _, _, _, h1, h2, h3, h4⟩ => ⟨x', by rw [← hn]; exact he, h1.trans hn, h2, h3, h4⟩
end Go.Proofs.YtdlhidjphaaklaaGreat.H
end
section
namespace Go.Proofs.YtdlhidjphaaklaaGreat.H
open Go.RowKit Go.Proofs.YtdlhidjphaaklaaGreat.P Go.Proofs.YtdlhidjphaaklaaGreatW.PrintWords Go.Proofs.YtdlhidjphaaklaaGreat.M
theorem held_calls (x : S32) {w : World} {v3 v4 : Value} {fss : List (List Nat)} (n : Nat) (h : Top w v3 v4 x fss) (hm : MkTop x 1) (hn : cntTop x = n) (hl : n ≤ 549755813880) :
    Calls Tryz.prog 23 #[.agg #[.int .i64 x.f0, .int .i64 x.f1, .string x.f2, v3, v4], .int .i64 1] w fun e w' => e = .returned (.int .i64 (1 + (n : Nat))) ∧ Below w.heap.size w w' := by
  obtain ⟨A3, c3, A4, c4, rfl, rfl, g3, l3, g4, l4⟩ := Seen.of_top h
  obtain ⟨k, hk⟩ := (held_ev x 1 hm (by omega) (by omega) (by omega)).rounds
  rw [hn] at hk
  exact laws_heldNode.calls k _ _ _ _ _ _ _ _ _ _ _ w g3 l3 g4 l4 hk
theorem heldAny_calls (a b : Int) (s : ByteArray) (x : S32) {w : World} {v3 v4 : Value} {fss : List (List Nat)} (n : Nat) (h : Top w v3 v4 x fss) (hm : MkTop x 1) (hn : cntTop x = n) (hl : n ≤ 549755813880) :
    Calls Tryz.prog 23 #[.agg #[.int .i64 a, .int .i64 b, .string s, v3, v4], .int .i64 1] w fun e w' => e = .returned (.int .i64 (1 + (n : Nat))) ∧ Below w.heap.size w w' :=
  held_calls ⟨a, b, s, x.f3, x.f4⟩ n h hm hn hl
end Go.Proofs.YtdlhidjphaaklaaGreat.H
end
section
namespace Go.Proofs.YtdlhidjphaaklaaGreat.O
open Go.ChangeShapes Go.WideShapes Go.ChangeAt Go.RowKit Go.Proofs.YtdlhidjphaaklaaGreat.P Go.Proofs.YtdlhidjphaaklaaGreatW.PrintWords
def Opens {α : Type} (P : Program) (d : Kd α) (T : TypeId) (good : α → Prop) (fuel : Nat) : Prop :=
  ∀ {H : Type} (enc : TypeId × Value → H) (w : World) (base : Nat) (spare : Nat → Bool) (held : Bool) (cs : List Value) (x : DataW H × List MemPlace),
    DataW.trod enc P w base spare held fuel T cs = some x → ∃ a : α, d.K w a cs ∧ good a
section
variable {P : Program} {T e : TypeId} {k : IntKind}
theorem opens_int (hT : P.underlying T = some (.int k)) (fuel : Nat) : Opens P (Kd.int k) T (fun n => (Lit.int k n).wf = true) fuel := by
  intro H enc w base spare held cs x h
  cases fuel with
  | zero => simp [DataW.trod] at h
  | succ f =>
    simp only [DataW.trod, hT] at h
    split at h <;> try (rename_i hh; cases hh; done)
    all_goals first
      | (rename_i k1 k2 n hh; injection hh with hh; injection hh with hh; subst hh; split at h
         · rename_i hc; obtain ⟨rfl, hw⟩ := hc; exact ⟨n, rfl, hw⟩
         · cases h)
      | cases h
      | (simp at *; done)
theorem opens_string (hT : P.underlying T = some .string) (fuel : Nat) : Opens P Kd.string T (fun s => s.size ≤ maxLen) fuel := by
  intro H enc w base spare held cs x h
  cases fuel with
  | zero => simp [DataW.trod] at h
  | succ f =>
    simp only [DataW.trod, hT] at h
    split at h <;> try (rename_i hh; cases hh; done)
    all_goals first
      | (split at h
         · rename_i hc; exact ⟨_, rfl, hc⟩
         · cases h)
      | cases h
      | (simp at *; done)
theorem mapM_at {α β : Type} {f : α → Option β} {l : List α} {r : List β} (h : l.mapM f = some r) (i : Nat) (x : α) (hx : l[i]? = some x) : ∃ y, f x = some y := by
  have hg := Go.mapM_some_get h i x hx
  have hl := Go.mapM_some_length h
  have hi : i < r.length := by rw [hl]; exact (List.getElem?_eq_some_iff.1 hx).1
  exact ⟨r[i], by rw [hg, List.getElem?_eq_getElem hi]⟩
theorem choose_list {α : Type} {p : Nat → α → Prop} : ∀ n : Nat, (∀ i, i < n → ∃ a, p i a) → ∃ xs : List α, xs.length = n ∧ ∀ i a, xs[i]? = some a → p i a
  | 0, _ => ⟨[], rfl, fun i a h => by simp at h⟩
  | n + 1, h => by
    obtain ⟨xs, hl, hx⟩ := choose_list n (fun i hi => h i (by omega))
    obtain ⟨a, ha⟩ := h n (by omega)
    refine ⟨xs ++ [a], by simp [hl], fun i b hb => ?_⟩
    rcases Nat.lt_or_ge i n with hi | hi
    · rw [List.getElem?_append_left (by omega)] at hb
      exact hx i b hb
    · have hl2 := (List.getElem?_eq_some_iff.1 hb).1
      rw [List.length_append, List.length_singleton] at hl2
      obtain rfl : i = n := by omega
      rw [← hl, List.getElem?_concat_length] at hb
      obtain rfl := Option.some.inj hb
      exact ha
theorem cells_at {w : World} {base : Nat} {a : Addr} {n : Nat} {cs : List Value} (h : w.cells? base a n = some cs) : cs.length = n ∧ ∀ i u, cs[i]? = some u → w.cell? (a.add i) = some u := by
  unfold World.cells? at h
  split at h
  · have hl := Go.mapM_some_length h
    rw [List.length_range] at hl
    refine ⟨hl, fun i u hu => ?_⟩
    have hi := (List.getElem?_eq_some_iff.1 hu).1
    have hg := Go.mapM_some_get h i i (by rw [List.getElem?_range (by omega)])
    rw [hg, hu]
  · cases h
theorem add_add (a : Addr) (i j : Nat) : (a.add i).add j = a.add (i + j) := by
  unfold Addr.add
  by_cases h1 : i = 0 <;> by_cases h2 : j = 0 <;> simp [h1, h2, Nat.add_assoc]
theorem opens_sliceN {α : Type} {d : Kd α} {good : α → Prop} (hT : P.underlying T = some (.slice e)) (hs : P.cellsOf e = d.sz) {f : Nat} (he : Opens P d e good f) :
    Opens P (Kd.slice e d) T (fun l => l.length ≤ maxLen ∧ ∀ y ∈ l, good y) (f + 1) := by
  intro H enc w base spare held cs x h
  simp only [DataW.trod, hT] at h
  split at h <;> try (rename_i hh; cases hh; done)
  all_goals first
    | (exact ⟨[], ⟨none, 0, rfl, Nat.le_refl _, ⟨rfl, by simp, fun hp => absurd hp (by simp)⟩⟩, Nat.zero_le _, fun y hy => by simp at hy⟩)
    | (rename_i e' a len cap hh
       injection hh with hh
       injection hh with hh
       subst hh
       split at h
       · rename_i hc
         obtain ⟨hb, hlc, hcm⟩ := hc
         obtain ⟨elems, hel, _⟩ := Option.bind_eq_some_iff.1 h
         have key : ∀ i, i < len → ∃ y : α, good y ∧ ∃ c : List Value, c.length = d.sz ∧ d.K w y c ∧ ∀ j u, c[j]? = some u → w.cell? (a.add (i * d.sz + j)) = some u := by
           intro i hi
           obtain ⟨y, hy⟩ := mapM_at hel i i (by rw [List.getElem?_range hi])
           obtain ⟨c, hcc, ht⟩ := Option.bind_eq_some_iff.1 hy
           obtain ⟨z, hk, hg⟩ := he _ _ _ _ _ _ _ ht
           obtain ⟨hl, hcell⟩ := cells_at hcc
           refine ⟨z, hg, c, by rw [hl, hs], hk, fun j u hu => ?_⟩
           have := hcell j u hu
           rw [add_add, hs] at this
           exact this
         obtain ⟨xs, hxl, hx⟩ := choose_list len key
         have hcm' : len ≤ 9223372036854775807 := by unfold maxLen at hcm; omega
         refine ⟨xs, ⟨some a, cap, by rw [hxl], by rw [hxl]; exact hlc, ⟨rfl, by rw [hxl]; exact hcm', fun _ => ⟨a, rfl, fun j p hj => ?_⟩⟩⟩, by rw [hxl]; exact hcm', fun y hy => ?_⟩
         · obtain ⟨_, c, h1, h2, h3⟩ := hx j p hj
           exact ⟨c, h1, h2, h3⟩
         · obtain ⟨i, hi, rfl⟩ := List.getElem_of_mem hy
           exact (hx i _ (List.getElem?_eq_getElem hi)).1
       · cases h)
    | cases h
    | (simp at *; done)
theorem opens_slice {α : Type} {d : Kd α} {good : α → Prop} (hT : P.underlying T = some (.slice e)) (hs : P.cellsOf e = d.sz) (he : ∀ f, Opens P d e good f) (fuel : Nat) :
    Opens P (Kd.slice e d) T (fun l => l.length ≤ maxLen ∧ ∀ y ∈ l, good y) fuel := by
  cases fuel with
  | zero => intro H enc w base spare held cs x h; simp [DataW.trod] at h
  | succ f => exact opens_sliceN hT hs (he f)
theorem trod_struct {fs : Array Field} (hT : P.underlying T = some (.struct fs)) {H : Type} {enc : TypeId × Value → H} {w : World} {base : Nat} {spare : Nat → Bool} {held : Bool} {f : Nat} {cs : List Value} {x : DataW H × List MemPlace}
    (h : DataW.trod enc P w base spare held (f + 1) T cs = some x) : cs.length = P.cellsOf T ∧ ∃ xs, fs.toList.mapM (fun z => DataW.trod enc P w base spare held f z.type ((cs.drop z.offset).take (P.cellsOf z.type))) = some xs := by
  simp only [DataW.trod, hT] at h
  split at h
  · rename_i hl
    obtain ⟨xs, hxs, _⟩ := Option.map_eq_some_iff.1 h
    exact ⟨hl, xs, hxs⟩
  · cases h
end
theorem list_2 {α : Type} {l : List α} (h : l.length = 2) : ∃ a b, l = [a, b] := by
  match l, h with
  | [a, b], _ => exact ⟨a, b, rfl⟩
theorem list_3 {α : Type} {l : List α} (h : l.length = 3) : ∃ a b c, l = [a, b, c] := by
  match l, h with
  | [a, b, c], _ => exact ⟨a, b, c, rfl⟩
theorem list_4 {α : Type} {l : List α} (h : l.length = 4) : ∃ a b c d, l = [a, b, c, d] := by
  match l, h with
  | [a, b, c, d], _ => exact ⟨a, b, c, d, rfl⟩
theorem list_10 {α : Type} {l : List α} (h : l.length = 10) : ∃ a b c d e f g h i j, l = [a, b, c, d, e, f, g, h, i, j] := by
  match l, h with
  | [a, b, c, d, e, f, g, h, i, j], _ => exact ⟨a, b, c, d, e, f, g, h, i, j, rfl⟩
theorem arr_of {cs : Array Value} {l : List Value} (h : cs.toList = l) : cs = l.toArray := by subst h; rfl
def good113 (x : S113) : Prop := x.f0.size ≤ maxLen ∧ (Lit.int .i64 x.f1).wf = true ∧ (Lit.int .i64 x.f2).wf = true
theorem cells113 : Tryz.prog.cellsOf 113 = 3 := by kernel_rfl
set_option maxRecDepth 100000 in
theorem opens113 : ∀ fuel, Opens Tryz.prog k113 113 good113 fuel
  | 0 => fun enc w base spare held cs x h => by simp [DataW.trod] at h
  | f + 1 => fun enc w base spare held cs x h => by
    obtain ⟨hl, xs, hm⟩ := trod_struct Tryz.underlying113 h
    rw [cells113] at hl
    obtain ⟨c0, c1, c2, rfl⟩ := list_3 hl
    have hm2 := hm
    obtain ⟨y0, hy0⟩ := mapM_at hm 0 _ rfl
    obtain ⟨a0, k0_, g0⟩ := (opens_string Tryz.underlying9) _ _ _ _ _ _ _ _ (show DataW.trod enc Tryz.prog w base spare held f 9 [c0] = some y0 from hy0)
    obtain ⟨y1, hy1⟩ := mapM_at hm 1 _ rfl
    obtain ⟨a1, k1_, g1⟩ := (opens_int Tryz.underlying3) _ _ _ _ _ _ _ _ (show DataW.trod enc Tryz.prog w base spare held f 3 [c1] = some y1 from hy1)
    obtain ⟨y2, hy2⟩ := mapM_at hm 2 _ rfl
    obtain ⟨a2, k2_, g2⟩ := (opens_int Tryz.underlying3) _ _ _ _ _ _ _ _ (show DataW.trod enc Tryz.prog w base spare held f 3 [c2] = some y2 from hy2)
    exact ⟨⟨a0, a1, a2⟩, ⟨[c0], [c1, c2], rfl, k0_, ⟨[c1], [c2], rfl, k1_, k2_⟩⟩, ⟨g0, g1, g2⟩⟩
def good41 (x : S41) : Prop := (Lit.int .i64 x.f0).wf = true ∧ (Lit.int .i64 x.f1).wf = true ∧ (Lit.int .i64 x.f2).wf = true ∧ (Lit.int .i64 x.f3).wf = true
theorem cells41 : Tryz.prog.cellsOf 41 = 4 := by kernel_rfl
set_option maxRecDepth 100000 in
theorem opens41 : ∀ fuel, Opens Tryz.prog k41 41 good41 fuel
  | 0 => fun enc w base spare held cs x h => by simp [DataW.trod] at h
  | f + 1 => fun enc w base spare held cs x h => by
    obtain ⟨hl, xs, hm⟩ := trod_struct Tryz.underlying41 h
    rw [cells41] at hl
    obtain ⟨c0, c1, c2, c3, rfl⟩ := list_4 hl
    have hm2 := hm
    obtain ⟨y0, hy0⟩ := mapM_at hm 0 _ rfl
    obtain ⟨a0, k0_, g0⟩ := (opens_int Tryz.underlying3) _ _ _ _ _ _ _ _ (show DataW.trod enc Tryz.prog w base spare held f 3 [c0] = some y0 from hy0)
    obtain ⟨y1, hy1⟩ := mapM_at hm 1 _ rfl
    obtain ⟨a1, k1_, g1⟩ := (opens_int Tryz.underlying3) _ _ _ _ _ _ _ _ (show DataW.trod enc Tryz.prog w base spare held f 3 [c1] = some y1 from hy1)
    obtain ⟨y2, hy2⟩ := mapM_at hm 2 _ rfl
    obtain ⟨a2, k2_, g2⟩ := (opens_int Tryz.underlying3) _ _ _ _ _ _ _ _ (show DataW.trod enc Tryz.prog w base spare held f 3 [c2] = some y2 from hy2)
    obtain ⟨y3, hy3⟩ := mapM_at hm 3 _ rfl
    obtain ⟨a3, k3_, g3⟩ := (opens_int Tryz.underlying3) _ _ _ _ _ _ _ _ (show DataW.trod enc Tryz.prog w base spare held f 3 [c3] = some y3 from hy3)
    exact ⟨⟨a0, a1, a2, a3⟩, ⟨[c0], [c1, c2, c3], rfl, k0_, ⟨[c1], [c2, c3], rfl, k1_, ⟨[c2], [c3], rfl, k2_, k3_⟩⟩⟩, ⟨g0, g1, g2, g3⟩⟩
def good116 (x : S116) : Prop := x.f0.size ≤ maxLen ∧ x.f1.size ≤ maxLen
theorem cells116 : Tryz.prog.cellsOf 116 = 2 := by kernel_rfl
set_option maxRecDepth 100000 in
theorem opens116 : ∀ fuel, Opens Tryz.prog k116 116 good116 fuel
  | 0 => fun enc w base spare held cs x h => by simp [DataW.trod] at h
  | f + 1 => fun enc w base spare held cs x h => by
    obtain ⟨hl, xs, hm⟩ := trod_struct Tryz.underlying116 h
    rw [cells116] at hl
    obtain ⟨c0, c1, rfl⟩ := list_2 hl
    have hm2 := hm
    obtain ⟨y0, hy0⟩ := mapM_at hm 0 _ rfl
    obtain ⟨a0, k0_, g0⟩ := (opens_string Tryz.underlying9) _ _ _ _ _ _ _ _ (show DataW.trod enc Tryz.prog w base spare held f 9 [c0] = some y0 from hy0)
    obtain ⟨y1, hy1⟩ := mapM_at hm 1 _ rfl
    obtain ⟨a1, k1_, g1⟩ := (opens_string Tryz.underlying9) _ _ _ _ _ _ _ _ (show DataW.trod enc Tryz.prog w base spare held f 9 [c1] = some y1 from hy1)
    exact ⟨⟨a0, a1⟩, ⟨[c0], [c1], rfl, k0_, k1_⟩, ⟨g0, g1⟩⟩
def good44 (x : S44) : Prop := x.f0.size ≤ maxLen ∧ x.f1.size ≤ maxLen ∧ (Lit.int .i64 x.f2).wf = true ∧ (Lit.int .i64 x.f3).wf = true ∧ (x.f4.length ≤ maxLen ∧ ∀ y ∈ x.f4, good113 y) ∧ good41 x.f5 ∧ (x.f6.length ≤ maxLen ∧ ∀ y ∈ x.f6, good116 y)
theorem cells44 : Tryz.prog.cellsOf 44 = 10 := by kernel_rfl
set_option maxRecDepth 100000 in
theorem opens44 : ∀ fuel, Opens Tryz.prog k44 44 good44 fuel
  | 0 => fun enc w base spare held cs x h => by simp [DataW.trod] at h
  | f + 1 => fun enc w base spare held cs x h => by
    obtain ⟨hl, xs, hm⟩ := trod_struct Tryz.underlying44 h
    rw [cells44] at hl
    obtain ⟨c0, c1, c2, c3, c4, c5, c6, c7, c8, c9, rfl⟩ := list_10 hl
    have hm2 := hm
    obtain ⟨y0, hy0⟩ := mapM_at hm 0 _ rfl
    obtain ⟨a0, k0_, g0⟩ := (opens_string Tryz.underlying9) _ _ _ _ _ _ _ _ (show DataW.trod enc Tryz.prog w base spare held f 9 [c0] = some y0 from hy0)
    obtain ⟨y1, hy1⟩ := mapM_at hm 1 _ rfl
    obtain ⟨a1, k1_, g1⟩ := (opens_string Tryz.underlying9) _ _ _ _ _ _ _ _ (show DataW.trod enc Tryz.prog w base spare held f 9 [c1] = some y1 from hy1)
    obtain ⟨y2, hy2⟩ := mapM_at hm 2 _ rfl
    obtain ⟨a2, k2_, g2⟩ := (opens_int Tryz.underlying3) _ _ _ _ _ _ _ _ (show DataW.trod enc Tryz.prog w base spare held f 3 [c2] = some y2 from hy2)
    obtain ⟨y3, hy3⟩ := mapM_at hm 3 _ rfl
    obtain ⟨a3, k3_, g3⟩ := (opens_int Tryz.underlying3) _ _ _ _ _ _ _ _ (show DataW.trod enc Tryz.prog w base spare held f 3 [c3] = some y3 from hy3)
    obtain ⟨y4, hy4⟩ := mapM_at hm 4 _ rfl
    obtain ⟨a4, k4_, g4⟩ := (opens_slice Tryz.underlying39 (show Tryz.prog.cellsOf 113 = (k113).sz from by kernel_rfl) opens113) _ _ _ _ _ _ _ _ (show DataW.trod enc Tryz.prog w base spare held f 39 [c4] = some y4 from hy4)
    obtain ⟨y5, hy5⟩ := mapM_at hm 5 _ rfl
    obtain ⟨a5, k5_, g5⟩ := opens41 _ _ _ _ _ _ _ _ (show DataW.trod enc Tryz.prog w base spare held f 41 [c5, c6, c7, c8] = some y5 from hy5)
    obtain ⟨y6, hy6⟩ := mapM_at hm 6 _ rfl
    obtain ⟨a6, k6_, g6⟩ := (opens_slice Tryz.underlying42 (show Tryz.prog.cellsOf 116 = (k116).sz from by kernel_rfl) opens116) _ _ _ _ _ _ _ _ (show DataW.trod enc Tryz.prog w base spare held f 42 [c9] = some y6 from hy6)
    exact ⟨⟨a0, a1, a2, a3, a4, a5, a6⟩, ⟨[c0], [c1, c2, c3, c4, c5, c6, c7, c8, c9], rfl, k0_, ⟨[c1], [c2, c3, c4, c5, c6, c7, c8, c9], rfl, k1_, ⟨[c2], [c3, c4, c5, c6, c7, c8, c9], rfl, k2_, ⟨[c3], [c4, c5, c6, c7, c8, c9], rfl, k3_, ⟨[c4], [c5, c6, c7, c8, c9], rfl, k4_, ⟨[c5, c6, c7, c8], [c9], rfl, k5_, k6_⟩⟩⟩⟩⟩⟩, ⟨g0, g1, g2, g3, g4, g5, g6⟩⟩
end Go.Proofs.YtdlhidjphaaklaaGreat.O
end
section
namespace Go.Proofs.YtdlhidjphaaklaaGreat.H
open Go.RowKit Go.Proofs.YtdlhidjphaaklaaGreat.P Go.Proofs.YtdlhidjphaaklaaGreatW.PrintWords Go.Proofs.YtdlhidjphaaklaaGreatW.PrintLast Go.Proofs.YtdlhidjphaaklaaGreat.M Go.Proofs.YtdlhidjphaaklaaGreat.O
theorem orderIn2 {o : S44} (g : good44 o) : OrderIn o := by
  obtain ⟨h1, h2, _, _, ⟨h3, h4⟩, _, h5, h6⟩ := g
  exact ⟨h1, h2, h3, fun x hx => (h4 x hx).1, h5, fun x hx => h6 x hx⟩
set_option maxHeartbeats 16000000 in
set_option maxRecDepth 100000 in
theorem FnExactFullTree (x0 : S44) (hg : good44 x0) {A0_4 A0_9 : Option Addr} {c0_4 c0_9 : Nat} (w : World) (g0_4 : Kd.C k113 w A0_4 x0.f4.length x0.f4) (l0_4 : x0.f4.length ≤ c0_4) (g0_9 : Kd.C k116 w A0_9 x0.f6.length x0.f6) (l0_9 : x0.f6.length ≤ c0_9) :
    Calls Tryz.prog 4 #[.agg #[.string x0.f0, .string x0.f1, .int .i64 x0.f2, .int .i64 x0.f3, .slice A0_4 x0.f4.length c0_4, .int .i64 x0.f5.f0, .int .i64 x0.f5.f1, .int .i64 x0.f5.f2, .int .i64 x0.f5.f3, .slice A0_9 x0.f6.length c0_9]] w fun e w' => e = .returned (.bool true) ∧ Below w.heap.size w w' := by
  have hu := Tryz.underlying32
  have hu2 := Tryz.underlying44
  have hu3 := Tryz.underlying50
  have hu4 := Tryz.underlying47
  have hu5 := Tryz.underlying41
  have hin := orderIn2 hg
  have R4 := Lib.hid g0_4
  have R9 := Lib.hid g0_9
  have BL := Lib.hid (Below.refl w.heap.size w)
  have T0 : True := trivial
  have SZ := Lib.hid (fun (w : World) A4 A9 n4 n9 g4 l4 g9 l9 => szO_calls x0 hin (w := w) (A4 := A4) (A9 := A9) (n4 := n4) (n9 := n9) g4 l4 g9 l9)
  clear g0_4 g0_9 hg
  by_cases hb : szLeft (totOrder x0) 1048576 < 0
  · have hbt : decide (szLeft (totOrder x0) 1048576 < 0) = true := decide_eq_true hb
    clear hin
    go_enter Tryz.func4, Tryz.ntmps4
    go_wp2_with (first
      | (clear T0; (with_reducible refine gate_dst (N := 1) rfl ?_); refine box_event rfl (N := 1) rfl (cs := #[.string x0.f0, .string x0.f1, .int .i64 x0.f2, .int .i64 x0.f3, .slice A0_4 x0.f4.length c0_4, .int .i64 x0.f5.f0, .int .i64 x0.f5.f1, .int .i64 x0.f5.f2, .int .i64 x0.f5.f3, .slice A0_9 x0.f6.length c0_9]) (t := 44) (by first | (go_simp; done) | (go_simp; rfl)) ?_; intro g0 hg w0a bk hb; have GE0 := Lib.hid (Nat.le_trans BL.out.size (Nat.le_of_eq hg.symm)); replace BL := Lib.hid (BL.out.trans (hb.mono BL.out.size)); have BK0 := Lib.hid bk; clear hg bk hb; obtain ⟨c00, c01, c02, c03, c04, c05, c06, c07, c08, c09⟩ := cells10 BK0.out; have T1 : True := trivial)
      | (clear T1; go_at_call 17; refine (SZ.out _ _ _ _ _ (Kd.C_below R4.out BL.out) l0_4 (Kd.C_below R9.out BL.out) l0_9).mono ?_; rintro e w1x ⟨rfl, hb⟩; replace BL := Lib.hid (BL.out.trans (hb.mono BL.out.size)); replace BK0 := Lib.hid (blk_below BK0.out hb); clear c00 c01 c02 c03 c04 c05 c06 c07 c08 c09; obtain ⟨c00, c01, c02, c03, c04, c05, c06, c07, c08, c09⟩ := cells10 BK0.out; clear hb; have T2 : True := trivial))
    go_ret
    exact ⟨rfl, BL.out⟩
  have hbt : decide (szLeft (totOrder x0) 1048576 < 0) = false := decide_eq_false hb
  have hle := szLeft_neg hb
  obtain ⟨q1, q2, q3, q4, q5, q6⟩ := small_ord x0 hle
  have TO := Lib.hid (fun (w : World) A4 A9 n4 n9 g4 l4 g9 l9 => toO_calls x0 q3 q5 (w := w) (A4 := A4) (A9 := A9) (n4 := n4) (n9 := n9) g4 l4 g9 l9)
  obtain ⟨MS, hMS⟩ : ∃ l, x0.f4.map toM = l := ⟨_, rfl⟩
  obtain ⟨NS, hNS⟩ : ∃ l, x0.f6.map toN = l := ⟨_, rfl⟩
  have p3 : MS.length ≤ 1048576 := by rw [← hMS, List.length_map]; exact q3
  have p5 : NS.length ≤ 1048576 := by rw [← hNS, List.length_map]; exact q5
  have p4 : ∀ m ∈ MS, m.f0.size ≤ 1048576 := by
    intro m hm; rw [← hMS] at hm; obtain ⟨z, hz, rfl⟩ := List.mem_map.1 hm; exact q4 z hz
  have p6 : ∀ m ∈ NS, m.f0.size ≤ 1048576 ∧ m.f1.size ≤ 1048576 := by
    intro m hm; rw [← hNS] at hm; obtain ⟨z, hz, rfl⟩ := List.mem_map.1 hm; exact q6 z hz
  unfold OMade at TO
  rw [hMS, hNS] at TO
  have GC := Lib.hid (fullI_calls x0.f0 x0.f1 x0.f2 x0.f3 MS x0.f5.f0 x0.f5.f1 x0.f5.f2 x0.f5.f3 NS q1 q2 p3 p4 p5 p6)
  have SG := Lib.hid (fullS_calls x0.f0 x0.f1 x0.f2 x0.f3 MS x0.f5.f0 x0.f5.f1 x0.f5.f2 x0.f5.f3 NS q1 q2 p3 p4 p5 p6)
  have MO := Lib.hid (fun (w : World) b c v v' h hb => markO_calls x0.f0 x0.f1 x0.f2 x0.f3 MS x0.f5.f0 x0.f5.f1 x0.f5.f2 x0.f5.f3 NS p3 p5 (w := w) (b := b) (c := c) (v := v) (v' := v') h hb)
  have EO := Lib.hid (fun (w : World) A4 A9 B4 B9 n4 n9 k4 k9 h h' => eqO_calls x0.f0 x0.f1 x0.f2 x0.f3 MS x0.f5.f0 x0.f5.f1 x0.f5.f2 x0.f5.f3 NS p3 p5 (w := w) (A4 := A4) (A9 := A9) (B4 := B4) (B9 := B9) (n4 := n4) (n9 := n9) (k4 := k4) (k9 := k9) h h')
  have hcy := cnt_fullV x0.f0 x0.f1 x0.f2 x0.f3 MS x0.f5.f0 x0.f5.f1 x0.f5.f2 x0.f5.f3 NS p3 p5
  obtain ⟨y, hy⟩ : ∃ y, fullV x0.f0 x0.f1 x0.f2 x0.f3 MS x0.f5.f0 x0.f5.f1 x0.f5.f2 x0.f5.f3 NS = y := ⟨_, rfl⟩
  unfold Made at GC
  rw [hy] at GC SG hcy
  obtain ⟨n, hn⟩ : ∃ n, cntTop y = n := ⟨_, rfl⟩
  have hn3 : n ≤ 19923000 := by omega
  have HN := Lib.hid hn
  have HYB : Hid (cntTop y ≤ 549755813880) := by show cntTop _ ≤ _; omega
  have hn0 : decide ((1 : Int) + (n : Nat) < 0) = false := decide_eq_false (by omega)
  clear hb hle hn hy hcy hMS hNS hin q1 q2 q3 q4 q5 q6 p3 p4 p5 p6
  go_enter Tryz.func4, Tryz.ntmps4
  go_wp2_with (first
      | (clear T0; (with_reducible refine gate_dst (N := 1) rfl ?_); refine box_event rfl (N := 1) rfl (cs := #[.string x0.f0, .string x0.f1, .int .i64 x0.f2, .int .i64 x0.f3, .slice A0_4 x0.f4.length c0_4, .int .i64 x0.f5.f0, .int .i64 x0.f5.f1, .int .i64 x0.f5.f2, .int .i64 x0.f5.f3, .slice A0_9 x0.f6.length c0_9]) (t := 44) (by first | (go_simp; done) | (go_simp; rfl)) ?_; intro g0 hg w0a bk hb; have GE0 := Lib.hid (Nat.le_trans BL.out.size (Nat.le_of_eq hg.symm)); replace BL := Lib.hid (BL.out.trans (hb.mono BL.out.size)); have BK0 := Lib.hid bk; clear hg bk hb; obtain ⟨c00, c01, c02, c03, c04, c05, c06, c07, c08, c09⟩ := cells10 BK0.out; have T1 : True := trivial)
      | (clear T1; go_at_call 17; refine (SZ.out _ _ _ _ _ (Kd.C_below R4.out BL.out) l0_4 (Kd.C_below R9.out BL.out) l0_9).mono ?_; rintro e w1x ⟨rfl, hb⟩; replace BL := Lib.hid (BL.out.trans (hb.mono BL.out.size)); replace BK0 := Lib.hid (blk_below BK0.out hb); clear c00 c01 c02 c03 c04 c05 c06 c07 c08 c09; obtain ⟨c00, c01, c02, c03, c04, c05, c06, c07, c08, c09⟩ := cells10 BK0.out; clear hb; have T2 : True := trivial)
      | (clear T2; go_at_call 19; refine (TO.out _ _ _ _ _ (Kd.C_below R4.out BL.out) l0_4 (Kd.C_below R9.out BL.out) l0_9).mono ?_; rintro e wA ⟨vA, uA, bA, cA, hlo, hhi, rfl, ho, hb⟩; obtain ⟨A4A, n4A, A9A, n9A, rfl, rfl, _, _, _, _⟩ := ho.reads; replace BL := Lib.hid (BL.out.trans (hb.mono BL.out.size)); replace BK0 := Lib.hid (blk_below BK0.out hb); have SNA := Lib.hid ho.reads; have BSA := Lib.hid (Below.refl wA.heap.size wA); clear c00 c01 c02 c03 c04 c05 c06 c07 c08 c09; obtain ⟨c00, c01, c02, c03, c04, c05, c06, c07, c08, c09⟩ := cells10 BK0.out; clear hb ho hlo hhi; have T3 : True := trivial)
      | (clear T3; go_at_call 18; refine (SG.out _ _ _ _ _ (SNA.out.below BSA.out)).mono ?_; rintro e wS ⟨v3S, v4S, rfl, hs, hb⟩; have hs2 := hs; obtain ⟨E3S, q3S, E4S, q4S, rfl, rfl, _, _, _, _⟩ := hs2; clear SNA BSA; replace BL := Lib.hid (BL.out.trans (hb.mono BL.out.size)); replace BK0 := Lib.hid (blk_below BK0.out hb); have SNS := Lib.hid hs; have BSS := Lib.hid (Below.refl wS.heap.size wS); clear c00 c01 c02 c03 c04 c05 c06 c07 c08 c09; obtain ⟨c00, c01, c02, c03, c04, c05, c06, c07, c08, c09⟩ := cells10 BK0.out; clear hb hs; have T4 : True := trivial)
      | (clear T4; (with_reducible refine gate_dst (N := 4) rfl ?_); refine box_event rfl (N := 4) rfl (cs := #[.int .i64 0, .int .i64 0, .string ⟨#[]⟩, .slice none 0 0, .slice none 0 0]) (t := 32) (by first | (go_simp; done) | (go_simp; rfl)) ?_; intro g6 hg w6a bk hb; have GE6 := Lib.hid (Nat.le_trans BL.out.size (Nat.le_of_eq hg.symm)); have L06 := Lib.hid (Nat.lt_of_lt_of_le (blk_lt BK0.out) (Nat.le_of_eq hg.symm)); have ES6 := Lib.hid (Nat.le_trans BSS.out.size (Nat.le_of_eq hg.symm)); replace BL := Lib.hid (BL.out.trans (hb.mono BL.out.size)); replace BK0 := Lib.hid (blk_below BK0.out hb); replace BSS := Lib.hid (BSS.out.trans (hb.mono BSS.out.size)); have BK6 := Lib.hid bk; clear c00 c01 c02 c03 c04 c05 c06 c07 c08 c09; obtain ⟨c00, c01, c02, c03, c04, c05, c06, c07, c08, c09⟩ := cells10 BK0.out; obtain ⟨z0, z1, z2, z3, z4⟩ := cells5 BK6.out; obtain ⟨f0, f1, f2, f3, f4⟩ := free5 BK6.out; clear hg bk hb; have T5 : True := trivial)
      | (clear T5; (with_reducible refine gate_store (p := 4) rfl ?_); refine store5_event rfl rfl rfl (g := g6) (.int .i64 y.f0) (.int .i64 y.f1) (.string y.f2) (.slice E3S y.f3.length q3S) (.slice E4S y.f4.length q4S) BK6.out (by first | (go_simp; done) | (go_simp; rfl)) ?_; intro w6b bk hc2; replace BL := Lib.hid (below_chg BL.out BL.out.size hc2 (fun k e => e ▸ GE6.out)); replace BK0 := Lib.hid (blk_chg BK0.out hc2 (fun e => Nat.ne_of_lt L06.out e)); replace BSS := Lib.hid (below_chg BSS.out BSS.out.size hc2 (fun k e => e ▸ ES6.out)); replace BK6 := Lib.hid bk; clear z0 z1 z2 z3 z4 f0 f1 f2 f3 f4 hc2 bk; clear c00 c01 c02 c03 c04 c05 c06 c07 c08 c09; obtain ⟨c00, c01, c02, c03, c04, c05, c06, c07, c08, c09⟩ := cells10 BK0.out; obtain ⟨c60, c61, c62, c63, c64⟩ := cells5 BK6.out; have T6 : True := trivial)
      | (clear T6; go_at_call 19; refine (TO.out _ _ _ _ _ (Kd.C_below R4.out BL.out) l0_4 (Kd.C_below R9.out BL.out) l0_9).mono ?_; rintro e wX ⟨vX, uX, bX, cX, hlo, hhi, rfl, ho, hb⟩; obtain ⟨A4X, n4X, A9X, n9X, rfl, rfl, _, _, _, _⟩ := ho.reads; have M0X := Lib.hid (Nat.lt_of_lt_of_le (blk_lt BK0.out) (Nat.le_of_eq hlo)); have M6X := Lib.hid (Nat.lt_of_lt_of_le (blk_lt BK6.out) (Nat.le_of_eq hlo)); have ESX := Lib.hid (Nat.le_trans BSS.out.size (Nat.le_of_eq hlo)); have MEX := Lib.hid (Nat.le_trans BL.out.size (Nat.le_of_eq hlo)); have HSX := Lib.hid (Nat.le_trans (Nat.le_of_eq hlo.symm) (Nat.le_trans hb.size (Nat.le_of_eq hhi))); replace BL := Lib.hid (BL.out.trans (hb.mono BL.out.size)); replace BK0 := Lib.hid (blk_below BK0.out hb); replace BK6 := Lib.hid (blk_below BK6.out hb); replace BSS := Lib.hid (BSS.out.trans (hb.mono BSS.out.size)); have NTX := Lib.hid ho; have CLX := Lib.hid (Nat.le_of_eq hhi.symm); clear c00 c01 c02 c03 c04 c05 c06 c07 c08 c09; clear c60 c61 c62 c63 c64; obtain ⟨c00, c01, c02, c03, c04, c05, c06, c07, c08, c09⟩ := cells10 BK0.out; obtain ⟨c60, c61, c62, c63, c64⟩ := cells5 BK6.out; clear hb ho hlo hhi; have T7 : True := trivial)
      | (clear T7; (with_reducible refine gate_dst (N := 5) rfl ?_); refine box_event rfl (N := 5) rfl (cs := #[.string ⟨#[]⟩, .string ⟨#[]⟩, .int .i64 0, .int .i64 0, .slice none 0 0, .int .i64 0, .int .i64 0, .int .i64 0, .int .i64 0, .slice none 0 0]) (t := 50) (by first | (go_simp; done) | (go_simp; rfl)) ?_; intro g8 hg w8a bk hb; have CX8 := Lib.hid (Nat.le_trans CLX.out (Nat.le_of_eq hg.symm)); have GE8 := Lib.hid (Nat.le_trans BL.out.size (Nat.le_of_eq hg.symm)); have L08 := Lib.hid (Nat.lt_of_lt_of_le (blk_lt BK0.out) (Nat.le_of_eq hg.symm)); have L68 := Lib.hid (Nat.lt_of_lt_of_le (blk_lt BK6.out) (Nat.le_of_eq hg.symm)); have ES8 := Lib.hid (Nat.le_trans BSS.out.size (Nat.le_of_eq hg.symm)); replace BL := Lib.hid (BL.out.trans (hb.mono BL.out.size)); replace BK0 := Lib.hid (blk_below BK0.out hb); replace BK6 := Lib.hid (blk_below BK6.out hb); replace BSS := Lib.hid (BSS.out.trans (hb.mono BSS.out.size)); replace NTX := Lib.hid (OB.below NTX.out hb); replace CLX := Lib.hid (Nat.le_trans CLX.out hb.size); have BK8 := Lib.hid bk; clear c00 c01 c02 c03 c04 c05 c06 c07 c08 c09; clear c60 c61 c62 c63 c64; obtain ⟨c00, c01, c02, c03, c04, c05, c06, c07, c08, c09⟩ := cells10 BK0.out; obtain ⟨c60, c61, c62, c63, c64⟩ := cells5 BK6.out; obtain ⟨z0, z1, z2, z3, z4, z5, z6, z7, z8, z9⟩ := cells10 BK8.out; obtain ⟨f0, f1, f2, f3, f4, f5, f6, f7, f8, f9⟩ := free10 BK8.out; clear hg bk hb; have T8 : True := trivial)
      | (clear T8; (with_reducible refine gate_store (p := 5) rfl ?_); refine store10_event rfl rfl rfl (g := g8) (.string x0.f0) (.string x0.f1) (.int .i64 x0.f2) (.int .i64 x0.f3) (.slice A4X MS.length n4X) (.int .i64 x0.f5.f0) (.int .i64 x0.f5.f1) (.int .i64 x0.f5.f2) (.int .i64 x0.f5.f3) (.slice A9X NS.length n9X) BK8.out (by first | (go_simp; done) | (go_simp; rfl)) ?_; intro w8b bk hc2; replace BL := Lib.hid (below_chg BL.out BL.out.size hc2 (fun k e => e ▸ GE8.out)); replace BK0 := Lib.hid (blk_chg BK0.out hc2 (fun e => Nat.ne_of_lt L08.out e)); replace BK6 := Lib.hid (blk_chg BK6.out hc2 (fun e => Nat.ne_of_lt L68.out e)); replace BSS := Lib.hid (below_chg BSS.out BSS.out.size hc2 (fun k e => e ▸ ES8.out)); replace NTX := Lib.hid (OB.chg NTX.out hc2 (fun k h1 h2 h3 e => Nat.ne_of_lt (Nat.lt_of_lt_of_le h2 CX8.out) e)); replace CLX := Lib.hid (Nat.le_trans CLX.out hc2.size); replace BK8 := Lib.hid bk; clear z0 z1 z2 z3 z4 z5 z6 z7 z8 z9 f0 f1 f2 f3 f4 f5 f6 f7 f8 f9 hc2 bk; clear c00 c01 c02 c03 c04 c05 c06 c07 c08 c09; clear c60 c61 c62 c63 c64; obtain ⟨c00, c01, c02, c03, c04, c05, c06, c07, c08, c09⟩ := cells10 BK0.out; obtain ⟨c60, c61, c62, c63, c64⟩ := cells5 BK6.out; obtain ⟨c80, c81, c82, c83, c84, c85, c86, c87, c88, c89⟩ := cells10 BK8.out; have T9 : True := trivial)
      | (clear T9; go_at_call 20; refine (GC.out _ _ _ _ _ NTX.out.reads).mono ?_; rintro e wG ⟨v3G, v4G, gsG, rfl, ht, hf, hb⟩; have hs2 := Seen.of_top ht; obtain ⟨E3G, q3G, E4G, q4G, rfl, rfl, _, _, _, _⟩ := hs2; have GEG := Lib.hid (fun k hk => Nat.le_trans BL.out.size (hf k hk)); have D0G := Lib.hid (fun k hk => Nat.lt_of_lt_of_le (blk_lt BK0.out) (hf k hk)); have D6G := Lib.hid (fun k hk => Nat.lt_of_lt_of_le (blk_lt BK6.out) (hf k hk)); have D8G := Lib.hid (fun k hk => Nat.lt_of_lt_of_le (blk_lt BK8.out) (hf k hk)); have ESG := Lib.hid (fun k hk => Nat.le_trans BSS.out.size (hf k hk)); have NXG := Lib.hid (fun (k : Nat) (h1 : bX ≤ k) (h2 : k < cX) hk => Nat.not_le.2 h2 (Nat.le_trans CLX.out (hf k hk))); replace BL := Lib.hid (BL.out.trans (hb.mono BL.out.size)); replace BK0 := Lib.hid (blk_below BK0.out hb); replace BK6 := Lib.hid (blk_below BK6.out hb); replace BK8 := Lib.hid (blk_below BK8.out hb); replace BSS := Lib.hid (BSS.out.trans (hb.mono BSS.out.size)); replace NTX := Lib.hid (OB.below NTX.out hb); replace CLX := Lib.hid (Nat.le_trans CLX.out hb.size); have TPG := Lib.hid ht; clear c00 c01 c02 c03 c04 c05 c06 c07 c08 c09; clear c60 c61 c62 c63 c64; clear c80 c81 c82 c83 c84 c85 c86 c87 c88 c89; obtain ⟨c00, c01, c02, c03, c04, c05, c06, c07, c08, c09⟩ := cells10 BK0.out; obtain ⟨c60, c61, c62, c63, c64⟩ := cells5 BK6.out; obtain ⟨c80, c81, c82, c83, c84, c85, c86, c87, c88, c89⟩ := cells10 BK8.out; clear hb ht hf; have T10 : True := trivial)
      | (clear T10; (with_reducible refine gate_dst (N := 6) rfl ?_); refine box_event rfl (N := 6) rfl (cs := #[.int .i64 0, .int .i64 0, .string ⟨#[]⟩, .slice none 0 0, .slice none 0 0]) (t := 32) (by first | (go_simp; done) | (go_simp; rfl)) ?_; intro g9 hg w9a bk hb; have CX9 := Lib.hid (Nat.le_trans CLX.out (Nat.le_of_eq hg.symm)); have GE9 := Lib.hid (Nat.le_trans BL.out.size (Nat.le_of_eq hg.symm)); have L09 := Lib.hid (Nat.lt_of_lt_of_le (blk_lt BK0.out) (Nat.le_of_eq hg.symm)); have L69 := Lib.hid (Nat.lt_of_lt_of_le (blk_lt BK6.out) (Nat.le_of_eq hg.symm)); have L89 := Lib.hid (Nat.lt_of_lt_of_le (blk_lt BK8.out) (Nat.le_of_eq hg.symm)); have ES9 := Lib.hid (Nat.le_trans BSS.out.size (Nat.le_of_eq hg.symm)); have UG9 := Lib.hid (fun k hk => Nat.lt_of_lt_of_le (Top_lt TPG.out k hk) (Nat.le_of_eq hg.symm)); replace BL := Lib.hid (BL.out.trans (hb.mono BL.out.size)); replace BK0 := Lib.hid (blk_below BK0.out hb); replace BK6 := Lib.hid (blk_below BK6.out hb); replace BK8 := Lib.hid (blk_below BK8.out hb); replace BSS := Lib.hid (BSS.out.trans (hb.mono BSS.out.size)); replace TPG := Lib.hid (Top_below TPG.out hb); replace NTX := Lib.hid (OB.below NTX.out hb); replace CLX := Lib.hid (Nat.le_trans CLX.out hb.size); have BK9 := Lib.hid bk; clear c00 c01 c02 c03 c04 c05 c06 c07 c08 c09; clear c60 c61 c62 c63 c64; clear c80 c81 c82 c83 c84 c85 c86 c87 c88 c89; obtain ⟨c00, c01, c02, c03, c04, c05, c06, c07, c08, c09⟩ := cells10 BK0.out; obtain ⟨c60, c61, c62, c63, c64⟩ := cells5 BK6.out; obtain ⟨c80, c81, c82, c83, c84, c85, c86, c87, c88, c89⟩ := cells10 BK8.out; obtain ⟨z0, z1, z2, z3, z4⟩ := cells5 BK9.out; obtain ⟨f0, f1, f2, f3, f4⟩ := free5 BK9.out; clear hg bk hb; have T11 : True := trivial)
      | (clear T11; (with_reducible refine gate_store (p := 6) rfl ?_); refine store5_event rfl rfl rfl (g := g9) (.int .i64 y.f0) (.int .i64 y.f1) (.string y.f2) (.slice E3G y.f3.length q3G) (.slice E4G y.f4.length q4G) BK9.out (by first | (go_simp; done) | (go_simp; rfl)) ?_; intro w9b bk hc2; replace BL := Lib.hid (below_chg BL.out BL.out.size hc2 (fun k e => e ▸ GE9.out)); replace BK0 := Lib.hid (blk_chg BK0.out hc2 (fun e => Nat.ne_of_lt L09.out e)); replace BK6 := Lib.hid (blk_chg BK6.out hc2 (fun e => Nat.ne_of_lt L69.out e)); replace BK8 := Lib.hid (blk_chg BK8.out hc2 (fun e => Nat.ne_of_lt L89.out e)); replace BSS := Lib.hid (below_chg BSS.out BSS.out.size hc2 (fun k e => e ▸ ES9.out)); replace TPG := Lib.hid (Top_chg TPG.out hc2 (fun k hk e => Nat.ne_of_lt (UG9.out k hk) e)); replace NTX := Lib.hid (OB.chg NTX.out hc2 (fun k h1 h2 h3 e => Nat.ne_of_lt (Nat.lt_of_lt_of_le h2 CX9.out) e)); replace CLX := Lib.hid (Nat.le_trans CLX.out hc2.size); replace BK9 := Lib.hid bk; clear z0 z1 z2 z3 z4 f0 f1 f2 f3 f4 hc2 bk; clear c00 c01 c02 c03 c04 c05 c06 c07 c08 c09; clear c60 c61 c62 c63 c64; clear c80 c81 c82 c83 c84 c85 c86 c87 c88 c89; obtain ⟨c00, c01, c02, c03, c04, c05, c06, c07, c08, c09⟩ := cells10 BK0.out; obtain ⟨c60, c61, c62, c63, c64⟩ := cells5 BK6.out; obtain ⟨c80, c81, c82, c83, c84, c85, c86, c87, c88, c89⟩ := cells10 BK8.out; obtain ⟨c90, c91, c92, c93, c94⟩ := cells5 BK9.out; have T12 : True := trivial)
      | (clear T12; go_at_call 13; refine (eqN_calls y HYB.out (Seen.of_top TPG.out) (SNS.out.below BSS.out)).mono ?_; rintro e w12x ⟨rfl, hb⟩; replace BL := Lib.hid (BL.out.trans (hb.mono BL.out.size)); replace BK0 := Lib.hid (blk_below BK0.out hb); replace BK6 := Lib.hid (blk_below BK6.out hb); replace BK8 := Lib.hid (blk_below BK8.out hb); replace BK9 := Lib.hid (blk_below BK9.out hb); replace BSS := Lib.hid (BSS.out.trans (hb.mono BSS.out.size)); replace TPG := Lib.hid (Top_below TPG.out hb); replace NTX := Lib.hid (OB.below NTX.out hb); replace CLX := Lib.hid (Nat.le_trans CLX.out hb.size); clear c00 c01 c02 c03 c04 c05 c06 c07 c08 c09; clear c60 c61 c62 c63 c64; clear c80 c81 c82 c83 c84 c85 c86 c87 c88 c89; clear c90 c91 c92 c93 c94; obtain ⟨c00, c01, c02, c03, c04, c05, c06, c07, c08, c09⟩ := cells10 BK0.out; obtain ⟨c60, c61, c62, c63, c64⟩ := cells5 BK6.out; obtain ⟨c80, c81, c82, c83, c84, c85, c86, c87, c88, c89⟩ := cells10 BK8.out; obtain ⟨c90, c91, c92, c93, c94⟩ := cells5 BK9.out; clear hb; have T13 : True := trivial))
  refine start_ (n := 5) (S := fun W => W.cell? ⟨g8, 0, none⟩ = some (.string x0.f0) ∧ W.cell? ⟨g8, 1, none⟩ = some (.string x0.f1) ∧ W.cell? ⟨g8, 2, none⟩ = some (.int .i64 x0.f2) ∧ W.cell? ⟨g8, 3, none⟩ = some (.int .i64 x0.f3) ∧ W.cell? ⟨g8, 4, none⟩ = some (.slice A4X MS.length n4X) ∧ W.cell? ⟨g8, 5, none⟩ = some (.int .i64 x0.f5.f0) ∧ W.cell? ⟨g8, 6, none⟩ = some (.int .i64 x0.f5.f1) ∧ W.cell? ⟨g8, 7, none⟩ = some (.int .i64 x0.f5.f2) ∧ W.cell? ⟨g8, 8, none⟩ = some (.int .i64 x0.f5.f3) ∧ W.cell? ⟨g8, 9, none⟩ = some (.slice A9X NS.length n9X) ∧ W.cell? ⟨g0, 0, none⟩ = some (.string x0.f0) ∧ W.cell? ⟨g0, 1, none⟩ = some (.string x0.f1) ∧ W.cell? ⟨g0, 2, none⟩ = some (.int .i64 x0.f2) ∧ W.cell? ⟨g0, 3, none⟩ = some (.int .i64 x0.f3) ∧ W.cell? ⟨g0, 4, none⟩ = some (.slice A0_4 x0.f4.length c0_4) ∧ W.cell? ⟨g0, 5, none⟩ = some (.int .i64 x0.f5.f0) ∧ W.cell? ⟨g0, 6, none⟩ = some (.int .i64 x0.f5.f1) ∧ W.cell? ⟨g0, 7, none⟩ = some (.int .i64 x0.f5.f2) ∧ W.cell? ⟨g0, 8, none⟩ = some (.int .i64 x0.f5.f3) ∧ W.cell? ⟨g0, 9, none⟩ = some (.slice A0_9 x0.f6.length c0_9)) (ds := []) #[false, false, false, false, false] (by kernel_rfl) rfl rfl ⟨c80, c81, c82, c83, c84, c85, c86, c87, c88, c89, c00, c01, c02, c03, c04, c05, c06, c07, c08, c09⟩ (fun hHeld => ?_)
  replace BL := Lib.hid (BL.out.trans ((below_drew (Below.refl _ _)).mono BL.out.size)); replace BK0 := Lib.hid (blk_below BK0.out (below_drew (Below.refl _ _))); replace BK6 := Lib.hid (blk_below BK6.out (below_drew (Below.refl _ _))); replace BK8 := Lib.hid (blk_below BK8.out (below_drew (Below.refl _ _))); replace BK9 := Lib.hid (blk_below BK9.out (below_drew (Below.refl _ _))); replace BSS := Lib.hid (BSS.out.trans ((below_drew (Below.refl _ _)).mono BSS.out.size)); replace TPG := Lib.hid (Top_below TPG.out (below_drew (Below.refl _ _))); replace NTX := Lib.hid (OB.below NTX.out (below_drew (Below.refl _ _))); replace CLX := Lib.hid (Nat.le_trans CLX.out (below_drew (Below.refl 0 _)).size); clear c00 c01 c02 c03 c04 c05 c06 c07 c08 c09; clear c60 c61 c62 c63 c64; clear c80 c81 c82 c83 c84 c85 c86 c87 c88 c89; clear c90 c91 c92 c93 c94; obtain ⟨c00, c01, c02, c03, c04, c05, c06, c07, c08, c09⟩ := cells10 BK0.out; obtain ⟨c60, c61, c62, c63, c64⟩ := cells5 BK6.out; obtain ⟨c80, c81, c82, c83, c84, c85, c86, c87, c88, c89⟩ := cells10 BK8.out; obtain ⟨c90, c91, c92, c93, c94⟩ := cells5 BK9.out
  refine take_ (i := 0) (N := some 27) (v := _) (a' := _) (bs_ 5 1) rfl rfl (by kernel_rfl) (fun _ _ _ h => h) (Or.inl ⟨by rfl, by rintro w' ⟨s80, s81, s82, s83, s84, s85, s86, s87, s88, s89, s00, s01, s02, s03, s04, s05, s06, s07, s08, s09⟩; go_simp; first | with_reducible rfl | rfl⟩) hHeld (by simp only [Act.put, List.setIfInBounds_toArray, List.set_cons_zero, List.set_cons_succ]; rfl) ?_
  refine take_ (i := 1) (N := some 28) (v := _) (a' := _) (bs_ 5 3) rfl rfl (by kernel_rfl) (fun _ _ _ h => h) (Or.inl ⟨by rfl, by rintro w' ⟨s80, s81, s82, s83, s84, s85, s86, s87, s88, s89, s00, s01, s02, s03, s04, s05, s06, s07, s08, s09⟩; go_simp; first | with_reducible rfl | rfl⟩) hHeld (by simp only [Act.put, List.setIfInBounds_toArray, List.set_cons_zero, List.set_cons_succ]; rfl) ?_
  refine one_ (i := 2) (N := some 29) (bs_ 5 7) rfl rfl (by kernel_rfl) (by decide) (fun K hK => ?_)
  refine goes_ Tryz.func19 (by kernel_rfl) rfl #[.agg #[.string x0.f0, .string x0.f1, .int .i64 x0.f2, .int .i64 x0.f3, .slice A0_4 x0.f4.length c0_4, .int .i64 x0.f5.f0, .int .i64 x0.f5.f1, .int .i64 x0.f5.f2, .int .i64 x0.f5.f3, .slice A0_9 x0.f6.length c0_9]] (by rfl) rfl rfl (by (try simp only [List.map_toArray, List.map_cons, List.map_nil]); first | done | rfl) ?_
  refine (TO.out _ _ _ _ _ (Kd.C_below R4.out BL.out) l0_4 (Kd.C_below R9.out BL.out) l0_9).mono ?_
  rintro e wB ⟨vB, uB, bB, cB, hlo, hhi, rfl, ho, hb⟩
  refine ⟨_, rfl, ?_⟩
  obtain ⟨A4B, n4B, A9B, n9B, rfl, rfl, _, _, _, _⟩ := ho.reads; replace BL := Lib.hid (BL.out.trans (hb.mono BL.out.size)); replace BK0 := Lib.hid (blk_below BK0.out hb); replace BK6 := Lib.hid (blk_below BK6.out hb); replace BK8 := Lib.hid (blk_below BK8.out hb); replace BK9 := Lib.hid (blk_below BK9.out hb); replace BSS := Lib.hid (BSS.out.trans (hb.mono BSS.out.size)); replace TPG := Lib.hid (Top_below TPG.out hb); replace NTX := Lib.hid (OB.below NTX.out hb); replace CLX := Lib.hid (Nat.le_trans CLX.out hb.size); have SNB := Lib.hid ho.reads; have BSB := Lib.hid (Below.refl wB.heap.size wB); clear c00 c01 c02 c03 c04 c05 c06 c07 c08 c09; clear c60 c61 c62 c63 c64; clear c80 c81 c82 c83 c84 c85 c86 c87 c88 c89; clear c90 c91 c92 c93 c94; obtain ⟨c00, c01, c02, c03, c04, c05, c06, c07, c08, c09⟩ := cells10 BK0.out; obtain ⟨c60, c61, c62, c63, c64⟩ := cells5 BK6.out; obtain ⟨c80, c81, c82, c83, c84, c85, c86, c87, c88, c89⟩ := cells10 BK8.out; obtain ⟨c90, c91, c92, c93, c94⟩ := cells5 BK9.out; clear hb ho hlo hhi
  refine hK.out _ _ ⟨c80, c81, c82, c83, c84, c85, c86, c87, c88, c89, c00, c01, c02, c03, c04, c05, c06, c07, c08, c09⟩ (fun hHeld => ?_)
  clear hK K
  refine norm_ (a' := ?_) ?_ ?_
  rotate_left
  · show Act.put _ (some 29) _ = _
    simp only [Act.put, List.setIfInBounds_toArray, List.set_cons_zero, List.set_cons_succ]
    rfl
  refine one_ (i := 3) (N := some 30) (bs_ 5 15) rfl rfl (by kernel_rfl) (by decide) (fun K hK => ?_)
  refine goes_ Tryz.func21 (by kernel_rfl) rfl #[.agg #[.string x0.f0, .string x0.f1, .int .i64 x0.f2, .int .i64 x0.f3, .slice A4X MS.length n4X, .int .i64 x0.f5.f0, .int .i64 x0.f5.f1, .int .i64 x0.f5.f2, .int .i64 x0.f5.f3, .slice A9X NS.length n9X], .agg #[.string x0.f0, .string x0.f1, .int .i64 x0.f2, .int .i64 x0.f3, .slice A4B MS.length n4B, .int .i64 x0.f5.f0, .int .i64 x0.f5.f1, .int .i64 x0.f5.f2, .int .i64 x0.f5.f3, .slice A9B NS.length n9B]] (by rfl) rfl rfl (by (try simp only [List.map_toArray, List.map_cons, List.map_nil]); first | done | rfl) ?_
  refine (EO.out _ _ _ _ _ _ _ _ _ NTX.out.reads (SNB.out.below BSB.out)).mono ?_
  rintro e wBe ⟨rfl, hb⟩
  refine ⟨_, rfl, ?_⟩
  replace BL := Lib.hid (BL.out.trans (hb.mono BL.out.size)); replace BK0 := Lib.hid (blk_below BK0.out hb); replace BK6 := Lib.hid (blk_below BK6.out hb); replace BK8 := Lib.hid (blk_below BK8.out hb); replace BK9 := Lib.hid (blk_below BK9.out hb); replace BSS := Lib.hid (BSS.out.trans (hb.mono BSS.out.size)); replace TPG := Lib.hid (Top_below TPG.out hb); replace NTX := Lib.hid (OB.below NTX.out hb); replace CLX := Lib.hid (Nat.le_trans CLX.out hb.size); clear SNB BSB; clear c00 c01 c02 c03 c04 c05 c06 c07 c08 c09; clear c60 c61 c62 c63 c64; clear c80 c81 c82 c83 c84 c85 c86 c87 c88 c89; clear c90 c91 c92 c93 c94; obtain ⟨c00, c01, c02, c03, c04, c05, c06, c07, c08, c09⟩ := cells10 BK0.out; obtain ⟨c60, c61, c62, c63, c64⟩ := cells5 BK6.out; obtain ⟨c80, c81, c82, c83, c84, c85, c86, c87, c88, c89⟩ := cells10 BK8.out; obtain ⟨c90, c91, c92, c93, c94⟩ := cells5 BK9.out; clear hb
  refine hK.out _ _ ⟨c80, c81, c82, c83, c84, c85, c86, c87, c88, c89, c00, c01, c02, c03, c04, c05, c06, c07, c08, c09⟩ (fun hHeld => ?_)
  clear hK K
  refine norm_ (a' := ?_) ?_ ?_
  rotate_left
  · show Act.put _ (some 30) _ = _
    simp only [Act.put, List.setIfInBounds_toArray, List.set_cons_zero, List.set_cons_succ]
    rfl
  refine pure_ (i := 4) (N := some 31) (v := _) (a' := _) (bs_ 5 31) rfl rfl (by kernel_rfl) (fun _ _ _ h => h) (Or.inl ⟨by rfl, by intro w'; go_simp; first | with_reducible rfl | rfl⟩) (by simp only [Act.put, List.setIfInBounds_toArray, List.set_cons_zero, List.set_cons_succ]; rfl) ?_
  refine done_ (by kernel_rfl) ?_
  all_goals (go_wp2_with (first
      | (clear T13; go_at_call 22; refine (MO.out _ _ _ _ _ NTX.out (Nat.le_trans HSX.out CLX.out)).mono ?_; rintro e w13m ⟨r0, hr0, rfl, hc2⟩; have hrn : decide (r0 < 0) = false := decide_eq_false (by omega); replace BL := Lib.hid (below_chg BL.out BL.out.size hc2 (fun k e => e.elim (fun e => Nat.le_trans MEX.out e.1) (fun e => Nat.le_trans BL.out.size e))); replace BK0 := Lib.hid (blk_chg BK0.out hc2 (fun e => e.elim (fun e => Nat.not_le.2 M0X.out e.1) (fun e => Nat.not_le.2 (blk_lt BK0.out) e))); replace BK6 := Lib.hid (blk_chg BK6.out hc2 (fun e => e.elim (fun e => Nat.not_le.2 M6X.out e.1) (fun e => Nat.not_le.2 (blk_lt BK6.out) e))); replace BK8 := Lib.hid (blk_chg BK8.out hc2 (fun e => e.elim (fun e => Nat.not_lt.2 CX8.out e.2) (fun e => Nat.not_le.2 (blk_lt BK8.out) e))); replace BK9 := Lib.hid (blk_chg BK9.out hc2 (fun e => e.elim (fun e => Nat.not_lt.2 CX9.out e.2) (fun e => Nat.not_le.2 (blk_lt BK9.out) e))); replace BSS := Lib.hid (below_chg BSS.out BSS.out.size hc2 (fun k e => e.elim (fun e => Nat.le_trans ESX.out e.1) (fun e => Nat.le_trans BSS.out.size e))); replace TPG := Lib.hid (Top_chg TPG.out hc2 (fun k hk e => e.elim (fun e => NXG.out k e.1 e.2 hk) (fun e => Nat.not_le.2 (Top_lt TPG.out k hk) e))); clear NTX CLX hc2; clear c00 c01 c02 c03 c04 c05 c06 c07 c08 c09; clear c60 c61 c62 c63 c64; clear c80 c81 c82 c83 c84 c85 c86 c87 c88 c89; clear c90 c91 c92 c93 c94; obtain ⟨c00, c01, c02, c03, c04, c05, c06, c07, c08, c09⟩ := cells10 BK0.out; obtain ⟨c60, c61, c62, c63, c64⟩ := cells5 BK6.out; obtain ⟨c80, c81, c82, c83, c84, c85, c86, c87, c88, c89⟩ := cells10 BK8.out; obtain ⟨c90, c91, c92, c93, c94⟩ := cells5 BK9.out; have T14 : True := trivial)
      | (clear T14; go_at_call 13; refine (eqN_calls y HYB.out (Seen.of_top TPG.out) (SNS.out.below BSS.out)).mono ?_; rintro e w14x ⟨rfl, hb⟩; replace BL := Lib.hid (BL.out.trans (hb.mono BL.out.size)); replace BK0 := Lib.hid (blk_below BK0.out hb); replace BK6 := Lib.hid (blk_below BK6.out hb); replace BK8 := Lib.hid (blk_below BK8.out hb); replace BK9 := Lib.hid (blk_below BK9.out hb); replace BSS := Lib.hid (BSS.out.trans (hb.mono BSS.out.size)); replace TPG := Lib.hid (Top_below TPG.out hb); clear c00 c01 c02 c03 c04 c05 c06 c07 c08 c09; clear c60 c61 c62 c63 c64; clear c80 c81 c82 c83 c84 c85 c86 c87 c88 c89; clear c90 c91 c92 c93 c94; obtain ⟨c00, c01, c02, c03, c04, c05, c06, c07, c08, c09⟩ := cells10 BK0.out; obtain ⟨c60, c61, c62, c63, c64⟩ := cells5 BK6.out; obtain ⟨c80, c81, c82, c83, c84, c85, c86, c87, c88, c89⟩ := cells10 BK8.out; obtain ⟨c90, c91, c92, c93, c94⟩ := cells5 BK9.out; clear hb; have T15 : True := trivial)
      | (clear T15; go_at_call 14; refine (markTop_calls y n HN.out TPG.out (by omega)).mono ?_; rintro e w15m ⟨xG, rfl, hcn, hmk, htp, hc2⟩; replace BL := Lib.hid (below_chg BL.out BL.out.size hc2 (fun k e => e.elim (GEG.out k) (fun e => Nat.le_trans BL.out.size e))); replace BK0 := Lib.hid (blk_chg BK0.out hc2 (fun e => e.elim (fun e => Nat.lt_irrefl _ (D0G.out _ e)) (fun e => Nat.not_le.2 (blk_lt BK0.out) e))); replace BK6 := Lib.hid (blk_chg BK6.out hc2 (fun e => e.elim (fun e => Nat.lt_irrefl _ (D6G.out _ e)) (fun e => Nat.not_le.2 (blk_lt BK6.out) e))); replace BK8 := Lib.hid (blk_chg BK8.out hc2 (fun e => e.elim (fun e => Nat.lt_irrefl _ (D8G.out _ e)) (fun e => Nat.not_le.2 (blk_lt BK8.out) e))); replace BK9 := Lib.hid (blk_chg BK9.out hc2 (fun e => e.elim (fun e => Nat.lt_irrefl _ (UG9.out _ e)) (fun e => Nat.not_le.2 (blk_lt BK9.out) e))); replace BSS := Lib.hid (below_chg BSS.out BSS.out.size hc2 (fun k e => e.elim (ESG.out k) (fun e => Nat.le_trans BSS.out.size e))); replace TPG := Lib.hid htp; have MKG := Lib.hid hmk; have CNG := Lib.hid hcn; clear htp hc2 hmk hcn; clear c00 c01 c02 c03 c04 c05 c06 c07 c08 c09; clear c60 c61 c62 c63 c64; clear c80 c81 c82 c83 c84 c85 c86 c87 c88 c89; clear c90 c91 c92 c93 c94; obtain ⟨c00, c01, c02, c03, c04, c05, c06, c07, c08, c09⟩ := cells10 BK0.out; obtain ⟨c60, c61, c62, c63, c64⟩ := cells5 BK6.out; obtain ⟨c80, c81, c82, c83, c84, c85, c86, c87, c88, c89⟩ := cells10 BK8.out; obtain ⟨c90, c91, c92, c93, c94⟩ := cells5 BK9.out; have T16 : True := trivial)
      | (clear T16; go_at_call 23; refine (heldAny_calls _ _ _ xG n TPG.out MKG.out CNG.out (by omega)).mono ?_; rintro e w16x ⟨rfl, hb⟩; replace BL := Lib.hid (BL.out.trans (hb.mono BL.out.size)); replace BK0 := Lib.hid (blk_below BK0.out hb); replace BK6 := Lib.hid (blk_below BK6.out hb); replace BK8 := Lib.hid (blk_below BK8.out hb); replace BK9 := Lib.hid (blk_below BK9.out hb); replace BSS := Lib.hid (BSS.out.trans (hb.mono BSS.out.size)); replace TPG := Lib.hid (Top_below TPG.out hb); clear c00 c01 c02 c03 c04 c05 c06 c07 c08 c09; clear c60 c61 c62 c63 c64; clear c80 c81 c82 c83 c84 c85 c86 c87 c88 c89; clear c90 c91 c92 c93 c94; obtain ⟨c00, c01, c02, c03, c04, c05, c06, c07, c08, c09⟩ := cells10 BK0.out; obtain ⟨c60, c61, c62, c63, c64⟩ := cells5 BK6.out; obtain ⟨c80, c81, c82, c83, c84, c85, c86, c87, c88, c89⟩ := cells10 BK8.out; obtain ⟨c90, c91, c92, c93, c94⟩ := cells5 BK9.out; clear hb; have T17 : True := trivial)
      | (clear T17; go_at_call 19; refine (TO.out _ _ _ _ _ (Kd.C_below R4.out BL.out) l0_4 (Kd.C_below R9.out BL.out) l0_9).mono ?_; rintro e wC ⟨vC, uC, bC, cC, hlo, hhi, rfl, ho, hb⟩; obtain ⟨A4C, n4C, A9C, n9C, rfl, rfl, _, _, _, _⟩ := ho.reads; replace BL := Lib.hid (BL.out.trans (hb.mono BL.out.size)); replace BK0 := Lib.hid (blk_below BK0.out hb); replace BK6 := Lib.hid (blk_below BK6.out hb); replace BK8 := Lib.hid (blk_below BK8.out hb); replace BK9 := Lib.hid (blk_below BK9.out hb); replace BSS := Lib.hid (BSS.out.trans (hb.mono BSS.out.size)); replace TPG := Lib.hid (Top_below TPG.out hb); have SNC := Lib.hid ho.reads; have BSC := Lib.hid (Below.refl wC.heap.size wC); clear c00 c01 c02 c03 c04 c05 c06 c07 c08 c09; clear c60 c61 c62 c63 c64; clear c80 c81 c82 c83 c84 c85 c86 c87 c88 c89; clear c90 c91 c92 c93 c94; obtain ⟨c00, c01, c02, c03, c04, c05, c06, c07, c08, c09⟩ := cells10 BK0.out; obtain ⟨c60, c61, c62, c63, c64⟩ := cells5 BK6.out; obtain ⟨c80, c81, c82, c83, c84, c85, c86, c87, c88, c89⟩ := cells10 BK8.out; obtain ⟨c90, c91, c92, c93, c94⟩ := cells5 BK9.out; clear hb ho hlo hhi; have T18 : True := trivial)
      | (clear T18; go_at_call 20; refine (GC.out _ _ _ _ _ (SNC.out.below BSC.out)).mono ?_; rintro e wH ⟨v3H, v4H, gsH, rfl, ht, hf, hb⟩; have hs2 := Seen.of_top ht; obtain ⟨E3H, q3H, E4H, q4H, rfl, rfl, _, _, _, _⟩ := hs2; have GEH := Lib.hid (fun k hk => Nat.le_trans BL.out.size (hf k hk)); have D0H := Lib.hid (fun k hk => Nat.lt_of_lt_of_le (blk_lt BK0.out) (hf k hk)); have D6H := Lib.hid (fun k hk => Nat.lt_of_lt_of_le (blk_lt BK6.out) (hf k hk)); have D8H := Lib.hid (fun k hk => Nat.lt_of_lt_of_le (blk_lt BK8.out) (hf k hk)); have D9H := Lib.hid (fun k hk => Nat.lt_of_lt_of_le (blk_lt BK9.out) (hf k hk)); have ESH := Lib.hid (fun k hk => Nat.le_trans BSS.out.size (hf k hk)); have ECH := Lib.hid (fun k hk => Nat.le_trans BSC.out.size (hf k hk)); have RGH := Lib.hid (fun k hk j hj => Nat.lt_of_lt_of_le (Top_lt TPG.out k hk) (hf j hj)); replace BL := Lib.hid (BL.out.trans (hb.mono BL.out.size)); replace BK0 := Lib.hid (blk_below BK0.out hb); replace BK6 := Lib.hid (blk_below BK6.out hb); replace BK8 := Lib.hid (blk_below BK8.out hb); replace BK9 := Lib.hid (blk_below BK9.out hb); replace BSS := Lib.hid (BSS.out.trans (hb.mono BSS.out.size)); replace BSC := Lib.hid (BSC.out.trans (hb.mono BSC.out.size)); replace TPG := Lib.hid (Top_below TPG.out hb); have TPH := Lib.hid ht; clear c00 c01 c02 c03 c04 c05 c06 c07 c08 c09; clear c60 c61 c62 c63 c64; clear c80 c81 c82 c83 c84 c85 c86 c87 c88 c89; clear c90 c91 c92 c93 c94; obtain ⟨c00, c01, c02, c03, c04, c05, c06, c07, c08, c09⟩ := cells10 BK0.out; obtain ⟨c60, c61, c62, c63, c64⟩ := cells5 BK6.out; obtain ⟨c80, c81, c82, c83, c84, c85, c86, c87, c88, c89⟩ := cells10 BK8.out; obtain ⟨c90, c91, c92, c93, c94⟩ := cells5 BK9.out; clear hb ht hf SNC BSC; have T19 : True := trivial)
      | (clear T19; (with_reducible refine gate_dst (N := 10) rfl ?_); refine box_event rfl (N := 10) rfl (cs := #[.int .i64 0, .int .i64 0, .string ⟨#[]⟩, .slice none 0 0, .slice none 0 0]) (t := 32) (by first | (go_simp; done) | (go_simp; rfl)) ?_; intro ge hg wea bk hb; have GEe := Lib.hid (Nat.le_trans BL.out.size (Nat.le_of_eq hg.symm)); have L0e := Lib.hid (Nat.lt_of_lt_of_le (blk_lt BK0.out) (Nat.le_of_eq hg.symm)); have L6e := Lib.hid (Nat.lt_of_lt_of_le (blk_lt BK6.out) (Nat.le_of_eq hg.symm)); have L8e := Lib.hid (Nat.lt_of_lt_of_le (blk_lt BK8.out) (Nat.le_of_eq hg.symm)); have L9e := Lib.hid (Nat.lt_of_lt_of_le (blk_lt BK9.out) (Nat.le_of_eq hg.symm)); have ESe := Lib.hid (Nat.le_trans BSS.out.size (Nat.le_of_eq hg.symm)); have UGe := Lib.hid (fun k hk => Nat.lt_of_lt_of_le (Top_lt TPG.out k hk) (Nat.le_of_eq hg.symm)); have UHe := Lib.hid (fun k hk => Nat.lt_of_lt_of_le (Top_lt TPH.out k hk) (Nat.le_of_eq hg.symm)); replace BL := Lib.hid (BL.out.trans (hb.mono BL.out.size)); replace BK0 := Lib.hid (blk_below BK0.out hb); replace BK6 := Lib.hid (blk_below BK6.out hb); replace BK8 := Lib.hid (blk_below BK8.out hb); replace BK9 := Lib.hid (blk_below BK9.out hb); replace BSS := Lib.hid (BSS.out.trans (hb.mono BSS.out.size)); replace TPG := Lib.hid (Top_below TPG.out hb); replace TPH := Lib.hid (Top_below TPH.out hb); have BKe := Lib.hid bk; clear c00 c01 c02 c03 c04 c05 c06 c07 c08 c09; clear c60 c61 c62 c63 c64; clear c80 c81 c82 c83 c84 c85 c86 c87 c88 c89; clear c90 c91 c92 c93 c94; obtain ⟨c00, c01, c02, c03, c04, c05, c06, c07, c08, c09⟩ := cells10 BK0.out; obtain ⟨c60, c61, c62, c63, c64⟩ := cells5 BK6.out; obtain ⟨c80, c81, c82, c83, c84, c85, c86, c87, c88, c89⟩ := cells10 BK8.out; obtain ⟨c90, c91, c92, c93, c94⟩ := cells5 BK9.out; obtain ⟨z0, z1, z2, z3, z4⟩ := cells5 BKe.out; obtain ⟨f0, f1, f2, f3, f4⟩ := free5 BKe.out; clear hg bk hb; have T20 : True := trivial)
      | (clear T20; (with_reducible refine gate_store (p := 10) rfl ?_); refine store5_event rfl rfl rfl (g := ge) (.int .i64 y.f0) (.int .i64 y.f1) (.string y.f2) (.slice E3H y.f3.length q3H) (.slice E4H y.f4.length q4H) BKe.out (by first | (go_simp; done) | (go_simp; rfl)) ?_; intro web bk hc2; replace BL := Lib.hid (below_chg BL.out BL.out.size hc2 (fun k e => e ▸ GEe.out)); replace BK0 := Lib.hid (blk_chg BK0.out hc2 (fun e => Nat.ne_of_lt L0e.out e)); replace BK6 := Lib.hid (blk_chg BK6.out hc2 (fun e => Nat.ne_of_lt L6e.out e)); replace BK8 := Lib.hid (blk_chg BK8.out hc2 (fun e => Nat.ne_of_lt L8e.out e)); replace BK9 := Lib.hid (blk_chg BK9.out hc2 (fun e => Nat.ne_of_lt L9e.out e)); replace BSS := Lib.hid (below_chg BSS.out BSS.out.size hc2 (fun k e => e ▸ ESe.out)); replace TPG := Lib.hid (Top_chg TPG.out hc2 (fun k hk e => Nat.ne_of_lt (UGe.out k hk) e)); replace TPH := Lib.hid (Top_chg TPH.out hc2 (fun k hk e => Nat.ne_of_lt (UHe.out k hk) e)); replace BKe := Lib.hid bk; clear z0 z1 z2 z3 z4 f0 f1 f2 f3 f4 hc2 bk; clear c00 c01 c02 c03 c04 c05 c06 c07 c08 c09; clear c60 c61 c62 c63 c64; clear c80 c81 c82 c83 c84 c85 c86 c87 c88 c89; clear c90 c91 c92 c93 c94; obtain ⟨c00, c01, c02, c03, c04, c05, c06, c07, c08, c09⟩ := cells10 BK0.out; obtain ⟨c60, c61, c62, c63, c64⟩ := cells5 BK6.out; obtain ⟨c80, c81, c82, c83, c84, c85, c86, c87, c88, c89⟩ := cells10 BK8.out; obtain ⟨c90, c91, c92, c93, c94⟩ := cells5 BK9.out; obtain ⟨ce0, ce1, ce2, ce3, ce4⟩ := cells5 BKe.out; have T21 : True := trivial)
      | (clear T21; go_at_call 13; refine (eqN_calls y HYB.out (Seen.of_top TPH.out) (SNS.out.below BSS.out)).mono ?_; rintro e w21x ⟨rfl, hb⟩; replace BL := Lib.hid (BL.out.trans (hb.mono BL.out.size)); replace BK0 := Lib.hid (blk_below BK0.out hb); replace BK6 := Lib.hid (blk_below BK6.out hb); replace BK8 := Lib.hid (blk_below BK8.out hb); replace BK9 := Lib.hid (blk_below BK9.out hb); replace BKe := Lib.hid (blk_below BKe.out hb); replace BSS := Lib.hid (BSS.out.trans (hb.mono BSS.out.size)); replace TPG := Lib.hid (Top_below TPG.out hb); replace TPH := Lib.hid (Top_below TPH.out hb); clear c00 c01 c02 c03 c04 c05 c06 c07 c08 c09; clear c60 c61 c62 c63 c64; clear c80 c81 c82 c83 c84 c85 c86 c87 c88 c89; clear c90 c91 c92 c93 c94; clear ce0 ce1 ce2 ce3 ce4; obtain ⟨c00, c01, c02, c03, c04, c05, c06, c07, c08, c09⟩ := cells10 BK0.out; obtain ⟨c60, c61, c62, c63, c64⟩ := cells5 BK6.out; obtain ⟨c80, c81, c82, c83, c84, c85, c86, c87, c88, c89⟩ := cells10 BK8.out; obtain ⟨c90, c91, c92, c93, c94⟩ := cells5 BK9.out; obtain ⟨ce0, ce1, ce2, ce3, ce4⟩ := cells5 BKe.out; clear hb; have T22 : True := trivial)
      | (clear T22; go_at_call 23; refine (heldAny_calls _ _ _ xG n TPG.out MKG.out CNG.out (by omega)).mono ?_; rintro e w22x ⟨rfl, hb⟩; replace BL := Lib.hid (BL.out.trans (hb.mono BL.out.size)); replace BK0 := Lib.hid (blk_below BK0.out hb); replace BK6 := Lib.hid (blk_below BK6.out hb); replace BK8 := Lib.hid (blk_below BK8.out hb); replace BK9 := Lib.hid (blk_below BK9.out hb); replace BKe := Lib.hid (blk_below BKe.out hb); replace BSS := Lib.hid (BSS.out.trans (hb.mono BSS.out.size)); replace TPG := Lib.hid (Top_below TPG.out hb); replace TPH := Lib.hid (Top_below TPH.out hb); clear c00 c01 c02 c03 c04 c05 c06 c07 c08 c09; clear c60 c61 c62 c63 c64; clear c80 c81 c82 c83 c84 c85 c86 c87 c88 c89; clear c90 c91 c92 c93 c94; clear ce0 ce1 ce2 ce3 ce4; obtain ⟨c00, c01, c02, c03, c04, c05, c06, c07, c08, c09⟩ := cells10 BK0.out; obtain ⟨c60, c61, c62, c63, c64⟩ := cells5 BK6.out; obtain ⟨c80, c81, c82, c83, c84, c85, c86, c87, c88, c89⟩ := cells10 BK8.out; obtain ⟨c90, c91, c92, c93, c94⟩ := cells5 BK9.out; obtain ⟨ce0, ce1, ce2, ce3, ce4⟩ := cells5 BKe.out; clear hb; have T23 : True := trivial)))
  all_goals go_ret
  all_goals exact ⟨rfl, BL.out⟩
end Go.Proofs.YtdlhidjphaaklaaGreat.H
end
section
namespace Go.Proofs.YtdlhidjphaaklaaGreat.Facts
theorem f_laid : laidOutB Tryz.prog = true := by kernel_rfl
theorem f_maps : mapsRowed Tryz.prog = true := by kernel_rfl
theorem f_knobs : (Tryz.prog.stopKnobs == []) = true := by kernel_rfl
theorem f_heard : Tryz.prog.stopsHeard = true := by kernel_rfl
theorem f_may : Tryz.prog.mayEnter = true := by kernel_rfl
theorem f_lifts : Tryz.prog.liftsFinal = false := by kernel_rfl
theorem f_make : Tryz.prog.make = some Rows.fnExactFullTreeRow.make := by kernel_rfl
end Go.Proofs.YtdlhidjphaaklaaGreat.Facts
end
