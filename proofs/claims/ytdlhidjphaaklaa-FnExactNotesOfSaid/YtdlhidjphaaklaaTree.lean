/- Trees: how many rounds they want; two trees held against each other (three functions of the program and its reference are equality). -/
import Derived.Test.YtdlhidjphaaklaaAid
import Derived.Test.YtdlhidjphaaklaaLists
import Derived.Test.YtdlhidjphaaklaaP_laws_eqNode
namespace Go.Proofs.Ytdlhidjphaaklaa.M
open Go.RowKit Go.Proofs.Ytdlhidjphaaklaa.P Go.Proofs.YtdlhidjphaaklaaW.PrintWords

/-- Rounds enough for a tree. -/
def rnd : S33 → Nat
  | ⟨_, _, _, ks, kids⟩ => 5 + ks.length + kids.length + (kids.attach.map fun x => rnd x.1).sum
termination_by x => SizeOf.sizeOf x
decreasing_by
  have := List.sizeOf_lt_of_mem x.2
  simp only [S33.mk.sizeOf_spec]
  omega
theorem rnd_eq (a : S33) : rnd a = 5 + a.f3.length + a.f4.length + (a.f4.map rnd).sum := by
  obtain ⟨f0, f1, f2, f3, f4⟩ := a
  rw [rnd]
  congr 1
  simp
theorem rnd_kid {a x : S33} (h : x ∈ a.f4) : rnd x + 5 + a.f3.length + a.f4.length ≤ rnd a := by
  have := mem_le_sum rnd a.f4 x h
  rw [rnd_eq a]; omega
/-- Whether a thing is so, as a Bool. -/
noncomputable def dec (p : Prop) : Bool := @decide p (Classical.propDecidable p)
theorem dec_iff {p : Prop} : dec p = true ↔ p := @decide_eq_true_iff p (Classical.propDecidable p)
theorem dec_true {p : Prop} (h : p) : dec p = true := dec_iff.2 h
theorem dec_false {p : Prop} (h : ¬ p) : dec p = false := by cases e : dec p with | false => rfl | true => exact absurd (dec_iff.1 e) h
theorem dec_cong {p q : Prop} (h : p ↔ q) : dec p = dec q := by rw [propext h]
theorem getD_at' {α : Type} (xs : List α) (z : α) (i : Nat) (h : i < xs.length) : xs.getD i z = xs[i] := by rw [List.getD_eq_getElem?_getD, List.getElem?_eq_getElem h]; rfl
theorem list_eq_all {α : Type} (z : α) (xs ys : List α) (h : xs.length = ys.length) : (List.range' 0 xs.length).all (fun i => dec (xs.getD i z = ys.getD i z)) = dec (xs = ys) := by
  by_cases e : xs = ys
  · subst e; rw [dec_true rfl, List.all_eq_true]; intro i _; exact dec_true rfl
  · rw [dec_false e]
    cases hc : (List.range' 0 xs.length).all (fun i => dec (xs.getD i z = ys.getD i z)) with
    | false => rfl
    | true =>
      exfalso
      apply e
      apply List.ext_getElem h
      intro i h1 h2
      have := dec_iff.1 (List.all_eq_true.1 hc i (by rw [List.mem_range']; exact ⟨i, h1, by omega⟩))
      rwa [getD_at' xs z i h1, getD_at' ys z i h2] at this
/-- A loop that holds two lists against each other, place by place. -/
theorem scanEq {α : Type} {g : Nat → Int → Option Bool} {K : Nat} {e : Bool} (z : α) (xs ys : List α) (h : xs.length = ys.length) (hend : ∀ k, K ≤ k → g (k + 1) (xs.length : Int) = some e)
    (hs1 : ∀ k (i : Nat), K ≤ k → i < xs.length → xs.getD i z = ys.getD i z → g (k + 1) (i : Int) = g k ((i + 1 : Nat) : Int)) (hs2 : ∀ k (i : Nat), K ≤ k → i < xs.length → xs.getD i z ≠ ys.getD i z → g (k + 1) (i : Int) = some false)
    (k : Nat) (hk : xs.length + K < k) : g k 0 = some (dec (xs = ys) && e) := by
  have q := scanK (g := g) (n := xs.length) (K := K) (P := fun i => dec (xs.getD i z = ys.getD i z)) (e := e) hend
    (fun k i hk hi => by
      by_cases c : xs.getD i z = ys.getD i z
      · rw [hs1 k i hk hi c, dec_true c, if_pos rfl]
      · rw [hs2 k i hk hi c, dec_false c, if_neg (by decide)]) xs.length 0 k (by omega) hk
  have e0 : ((0 : Nat) : Int) = 0 := rfl
  rw [e0, list_eq_all z xs ys h] at q
  exact q
theorem rdS (xs : List ByteArray) (i : Nat) : rdOf ByteArray.empty xs (i : Int) = xs.getD i ByteArray.empty := rfl
theorem rdT (xs : List S33) (i : Nat) : rd_T33 xs (i : Int) = xs.getD i z33 := rfl
theorem eqStrings_eq (xs ys : List ByteArray) (hl : xs.length ≤ 1099511627776) (k : Nat) (hk : xs.length < k) : laws_eqStringS.f k xs ys = some (dec (xs = ys)) := by
  unfold laws_eqStringS.f
  by_cases h : xs.length = ys.length
  · rw [if_pos (by omega), scanEq (g := fun k i => laws_eqStringS.l0 k xs ys i) (K := 0) (e := true) ByteArray.empty xs ys h (fun k _ => by simp only [laws_eqStringS.l0]; rw [if_neg (by omega)])
      (fun k i _ hi c => by
        simp only [laws_eqStringS.l0]
        rw [if_pos (by omega), if_pos (by omega), if_pos (by omega), rdS, rdS, if_pos (tlb.2 c), wsucc (by omega)])
      (fun k i _ hi c => by
        simp only [laws_eqStringS.l0]
        rw [if_pos (by omega), if_pos (by omega), if_pos (by omega), rdS, rdS, if_neg (fun e => c (tlb.1 e))]) k (by omega), Bool.and_true]
  · rw [if_neg (by omega), dec_false (fun e => h (by rw [e]))]
theorem node_ext (a b : S33) : a = b ↔ a.f0 = b.f0 ∧ a.f1 = b.f1 ∧ a.f2 = b.f2 ∧ a.f3 = b.f3 ∧ a.f4 = b.f4 := by
  constructor
  · rintro rfl; exact ⟨rfl, rfl, rfl, rfl, rfl⟩
  · obtain ⟨a0, a1, a2, a3, a4⟩ := a; obtain ⟨b0, b1, b2, b3, b4⟩ := b; rintro ⟨rfl, rfl, rfl, rfl, rfl⟩; rfl
theorem eqNode_eq : ∀ (n : Nat) (a b : S33), rnd a ≤ n → n ≤ 1099511627776 → ∀ k, n < k → laws_eqNode.f k a.f0 a.f1 a.f2 a.f3 a.f4 b.f0 b.f1 b.f2 b.f3 b.f4 = some (dec (a = b)) := by
  intro n
  induction n using Nat.strongRecOn with
  | _ n ih =>
    intro a b hn hN k hk
    have ra := rnd_eq a
    obtain ⟨k, rfl⟩ : ∃ m, k = m + 2 := ⟨k - 2, by omega⟩
    have kids : laws_eqNodeS.f (k + 1) a.f4 b.f4 = some (dec (a.f4 = b.f4)) := by
      simp only [laws_eqNodeS.f]
      by_cases h : a.f4.length = b.f4.length
      · have kid : ∀ k (i : Nat) (hi : i < a.f4.length), (a.f4.map rnd).sum + 1 ≤ k → laws_eqNode.f k (a.f4.getD i z33).f0 (a.f4.getD i z33).f1 (a.f4.getD i z33).f2 (a.f4.getD i z33).f3 (a.f4.getD i z33).f4 (b.f4.getD i z33).f0 (b.f4.getD i z33).f1 (b.f4.getD i z33).f2 (b.f4.getD i z33).f3 (b.f4.getD i z33).f4 = some (dec (a.f4.getD i z33 = b.f4.getD i z33)) := by
          intro k i hi hk
          have hm : a.f4.getD i z33 ∈ a.f4 := by rw [getD_at' _ _ _ hi]; exact List.getElem_mem hi
          have := rnd_kid hm
          have := mem_le_sum rnd a.f4 _ hm
          exact ih (rnd (a.f4.getD i z33)) (by omega) _ _ (Nat.le_refl _) (by omega) k (by omega)
        rw [if_pos (by omega), scanEq (g := fun k i => laws_eqNodeS.l0 k a.f4 b.f4 i) (K := (a.f4.map rnd).sum + 1) (e := true) z33 a.f4 b.f4 h (fun k _ => by simp only [laws_eqNodeS.l0]; rw [if_neg (by omega)])
          (fun k i hk hi c => by
            simp only [laws_eqNodeS.l0]
            rw [if_pos (by omega), if_pos (by omega), if_pos (by omega), rdT, rdT, kid k i hi hk, Option.bind_some, dec_true c, if_pos rfl, wsucc (by omega)])
          (fun k i hk hi c => by
            simp only [laws_eqNodeS.l0]
            rw [if_pos (by omega), if_pos (by omega), if_pos (by omega), rdT, rdT, kid k i hi hk, Option.bind_some, dec_false c, if_neg (by decide)]) k (by omega), Bool.and_true]
      · rw [if_neg (by omega), dec_false (fun e => h (by rw [e]))]
    simp only [laws_eqNode.f]
    rw [eqStrings_eq _ _ (by omega) _ (by omega), kids]
    simp only [Option.bind_some, tlb, dec_iff]
    rw [dec_cong (node_ext a b)]
    by_cases c0 : a.f0 = b.f0
    · by_cases c1 : a.f1 = b.f1
      · by_cases c2 : a.f2 = b.f2
        · by_cases c3 : a.f3 = b.f3
          · by_cases c4 : a.f4 = b.f4
            · rw [if_pos c0, if_pos c1, if_pos c2, if_pos c3, if_pos (dec_iff.2 c4), dec_true ⟨c0, c1, c2, c3, c4⟩]
            · rw [if_pos c0, if_pos c1, if_pos c2, if_pos c3, if_neg (fun e => c4 (dec_iff.1 e)), dec_false (fun e => c4 e.2.2.2.2)]
          · rw [if_pos c0, if_pos c1, if_pos c2, if_neg c3, dec_false (fun e => c3 e.2.2.2.1)]
        · rw [if_pos c0, if_pos c1, if_neg c2, dec_false (fun e => c2 e.2.2.1)]
      · rw [if_pos c0, if_neg c1, dec_false (fun e => c1 e.2.1)]
    · rw [if_neg c0, dec_false (fun e => c0 e.1)]
end Go.Proofs.Ytdlhidjphaaklaa.M
