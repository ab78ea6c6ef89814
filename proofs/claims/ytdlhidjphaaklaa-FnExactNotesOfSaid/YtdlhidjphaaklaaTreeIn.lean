/- Trees that come in: measured, made into the program's own. -/
import Derived.Test.YtdlhidjphaaklaaO
import Derived.Test.YtdlhidjphaaklaaAid
import Derived.Test.YtdlhidjphaaklaaLists
import Derived.Test.YtdlhidjphaaklaaP_laws_szStringS
import Derived.Test.YtdlhidjphaaklaaTree
namespace Go.Proofs.Ytdlhidjphaaklaa.M
open Go.RowKit Go.Proofs.Ytdlhidjphaaklaa.P Go.Proofs.Ytdlhidjphaaklaa.O Go.Proofs.YtdlhidjphaaklaaW.PrintWords

/-- The same tree, of the program's own kind. -/
def toT : S25 → S33
  | ⟨a, b, s, ks, kids⟩ => ⟨a, b, s, ks, kids.attach.map fun x => toT x.1⟩
termination_by x => SizeOf.sizeOf x
decreasing_by
  have := List.sizeOf_lt_of_mem x.2
  simp only [S25.mk.sizeOf_spec]
  omega
theorem toT_eq (a : S25) : toT a = ⟨a.f0, a.f1, a.f2, a.f3, a.f4.map toT⟩ := by
  obtain ⟨f0, f1, f2, f3, f4⟩ := a
  rw [toT]
  congr 1
  simp
/-- What a tree's texts, Keys and Kids measure. -/
def totT : S25 → Nat
  | ⟨_, _, s, ks, kids⟩ => s.size + (ks.length + (ks.map ByteArray.size).sum) + (kids.length + (kids.attach.map fun x => totT x.1).sum)
termination_by x => SizeOf.sizeOf x
decreasing_by
  have := List.sizeOf_lt_of_mem x.2
  simp only [S25.mk.sizeOf_spec]
  omega
theorem totT_eq (a : S25) : totT a = a.f2.size + (a.f3.length + (a.f3.map ByteArray.size).sum) + (a.f4.length + (a.f4.map totT).sum) := by
  obtain ⟨f0, f1, f2, f3, f4⟩ := a
  rw [totT]
  congr 2
  simp
theorem sum_map_le {α : Type} (f g : α → Nat) (c : Nat) : ∀ (l : List α), (∀ x ∈ l, f x ≤ c * g x + c) → (l.map f).sum ≤ c * (l.map g).sum + c * l.length
  | [], _ => by simp
  | x :: xs, h => by
    have h1 := h x (by simp)
    have h2 := sum_map_le f g c xs (fun y hy => h y (by simp [hy]))
    simp only [List.map_cons, List.sum_cons, List.length_cons]
    rw [Nat.mul_add, Nat.mul_add]
    omega
theorem rnd_le : ∀ (n : Nat) (a : S25), goodN25 n a → rnd (toT a) ≤ 6 * totT a + 5
  | 0, _, h => h.elim
  | n + 1, a, h => by
    have kids : ∀ x ∈ a.f4, rnd (toT x) ≤ 6 * totT x + 5 := fun x hx => rnd_le n x (h.2.2.2.2.2 x hx)
    rw [rnd_eq, totT_eq, toT_eq]
    simp only [List.length_map, List.map_map]
    have : ∀ l : List S25, (∀ x ∈ l, rnd (toT x) ≤ 6 * totT x + 5) → (l.map (rnd ∘ toT)).sum ≤ 6 * (l.map totT).sum + 5 * l.length := by
      intro l
      induction l with
      | nil => simp
      | cons x xs ih =>
        intro h
        have h1 := h x (by simp)
        have h2 := ih (fun y hy => h y (by simp [hy]))
        simp only [List.map_cons, List.sum_cons, List.length_cons]
        have e : (rnd ∘ toT) x = rnd (toT x) := rfl
        omega
    have := this a.f4 kids
    omega
theorem szStrings_eq (l : List ByteArray) (hl : l.length ≤ maxLen) (hm : ∀ m ∈ l, m.size ≤ maxLen) (left : Int) (h0 : 0 ≤ left) (h1 : left ≤ 1048576) (k : Nat) (hk : l.length < k) :
    laws_szStringS.f k l left = some (szLeft (l.length + (l.map ByteArray.size).sum) left) := by
  unfold maxLen at hl hm
  unfold laws_szStringS.f
  rw [w64 (by omega) (by omega)]
  by_cases h : left - (l.length : Int) < 0
  · rw [if_pos h]
    unfold szLeft
    rw [if_neg (by omega)]
  · rw [if_neg h]
    have e := sz_loop (g := fun k left i => laws_szStringS.l0 k l left i) (xs := l) (K := 0) ByteArray.size (fun k left _ => by simp only [laws_szStringS.l0]; rw [if_neg (by omega)])
      (fun k left i hi _ hl0 hl1 => by
        simp only [laws_szStringS.l0]
        have er : rdOf ByteArray.empty l (i : Int) = l[i] := getD_at' l _ i hi
        have hs := hm _ (List.getElem_mem hi)
        rw [if_pos (by omega), if_pos (by omega), er, wsucc (by omega), w64 (by omega) (by omega)]
        unfold szLeft
        by_cases c : (l[i].size : Int) ≤ left
        · rw [if_neg (by omega), if_pos c, if_neg (by omega)]
        · rw [if_pos (by omega), if_neg c, if_pos (by omega)])
      l.length 0 k (left - l.length) (by omega) (by omega) (by omega) (by omega)
    have e0 : ((0 : Nat) : Int) = 0 := rfl
    rw [e0, List.drop_zero] at e
    rw [e]
    unfold szLeft
    by_cases h2 : (((l.map ByteArray.size).sum : Nat) : Int) ≤ left - l.length
    · rw [if_pos h2, if_pos (by omega)]; congr 1; omega
    · rw [if_neg h2, if_neg (by omega)]
theorem rdT' (xs : List S25) (i : Nat) (h : i < xs.length) : rd_T25 xs (i : Int) = xs[i] := getD_at' xs _ i h
theorem szNode_eq : ∀ (n : Nat) (a : S25), goodN25 n a → ∀ (left : Int) (k : Nat), 0 ≤ left → left ≤ 1048576 → rnd (toT a) < k → laws_szNode.f k a.f0 a.f1 a.f2 a.f3 a.f4 left = some (szLeft (totT a) left)
  | 0, _, h => h.elim
  | n + 1, a, h => by
    intro left k h0 h1 hk
    obtain ⟨_, _, g2, ⟨g3, g3'⟩, ⟨g4, g4'⟩⟩ := h
    have rt := rnd_eq (toT a)
    rw [toT_eq] at rt hk
    simp only [List.length_map, List.map_map] at rt
    have hl4 := g4
    unfold maxLen at g2 hl4
    obtain ⟨k, rfl⟩ : ∃ m, k = m + 2 := ⟨k - 2, by omega⟩
    have kids : ∀ left : Int, 0 ≤ left → left ≤ 1048576 → laws_szNodeS.f (k + 1) a.f4 left = some (szLeft (a.f4.length + (a.f4.map totT).sum) left) := by
      intro left h0 h1
      simp only [laws_szNodeS.f]
      rw [w64 (by omega) (by omega)]
      by_cases h : left - (a.f4.length : Int) < 0
      · rw [if_pos h]
        unfold szLeft
        rw [if_neg (by omega)]
      · rw [if_neg h]
        have e := sz_loop (g := fun k left i => laws_szNodeS.l0 k a.f4 left i) (xs := a.f4) (K := (a.f4.map (rnd ∘ toT)).sum + 1) totT (fun k left _ => by simp only [laws_szNodeS.l0]; rw [if_neg (by omega)])
          (fun k left i hi hk hl0 hl1 => by
            simp only [laws_szNodeS.l0]
            have hm := List.getElem_mem hi
            have hr : rnd (toT a.f4[i]) ≤ (a.f4.map (rnd ∘ toT)).sum := mem_le_sum (rnd ∘ toT) a.f4 _ hm
            rw [if_pos (by omega), if_pos (by omega), rdT' _ _ hi, szNode_eq n _ (g4' _ hm) left k hl0 hl1 (by omega), Option.bind_some, wsucc (by omega)])
          a.f4.length 0 k (left - a.f4.length) (by omega) (by omega) (by omega) (by omega)
        have e0 : ((0 : Nat) : Int) = 0 := rfl
        rw [e0, List.drop_zero] at e
        rw [e]
        unfold szLeft
        by_cases h2 : (((a.f4.map totT).sum : Nat) : Int) ≤ left - a.f4.length
        · rw [if_pos h2, if_pos (by omega)]; congr 1; omega
        · rw [if_neg h2, if_neg (by omega)]
    simp only [laws_szNode.f]
    rw [w64 (by omega) (by omega), totT_eq]
    have key : ∀ m : Nat, (m : Int) ≤ (a.f2.size + (a.f3.length + (a.f3.map ByteArray.size).sum) + (a.f4.length + (a.f4.map totT).sum) : Nat) → left - (m : Int) < 0 → szLeft (a.f2.size + (a.f3.length + (a.f3.map ByteArray.size).sum) + (a.f4.length + (a.f4.map totT).sum)) left = -1 := by
      intro m h h2; unfold szLeft; rw [if_neg (by omega)]
    by_cases c1 : left - (a.f2.size : Int) < 0
    · rw [if_pos c1, key a.f2.size (by omega) c1]
    · rw [if_neg c1, szStrings_eq _ g3 g3' _ (by omega) (by omega) _ (by omega), Option.bind_some]
      by_cases c2 : szLeft (a.f3.length + (a.f3.map ByteArray.size).sum) (left - a.f2.size) < 0
      · rw [if_pos c2, key (a.f2.size + (a.f3.length + (a.f3.map ByteArray.size).sum)) (by omega) (by unfold szLeft at c2; split at c2 <;> omega)]
      · have h4 := szLeft_neg c2
        have e : szLeft (a.f3.length + (a.f3.map ByteArray.size).sum) (left - a.f2.size) = left - a.f2.size - ((a.f3.length + (a.f3.map ByteArray.size).sum : Nat) : Int) := if_pos h4
        rw [if_neg c2, e, kids _ (by omega) (by omega), Option.bind_some]
        unfold szLeft
        by_cases c3 : ((a.f4.length + (a.f4.map totT).sum : Nat) : Int) ≤ left - a.f2.size - ((a.f3.length + (a.f3.map ByteArray.size).sum : Nat) : Int)
        · rw [if_pos c3, if_neg (by omega), if_pos (by omega)]; congr 1; omega
        · rw [if_neg c3, if_pos (by omega), if_neg (by omega)]
theorem toStrings_eq (l : List ByteArray) (hl : l.length ≤ 1048576) (k : Nat) (hk : l.length < k) : laws_toStringS.f k l = some l := by
  unfold laws_toStringS.f
  rw [if_pos (by omega), Int.toNat_natCast, if_pos (by omega)]
  have e := fill_all (g := fun k acc i => laws_toStringS.l0 k l acc i) (K := 0) (xs := l) (fun x : ByteArray => x) (⟨#[]⟩ : ByteArray) (fun k acc _ => by simp only [laws_toStringS.l0]; rw [if_neg (by omega)])
    (fun k acc i hi _ ha => by
      simp only [laws_toStringS.l0]
      have er : rdOf ByteArray.empty l (i : Int) = l[i] := getD_at' l _ i hi
      rw [if_pos (by omega), if_pos (by omega), if_pos (by omega), er, wsucc (by omega), Int.toNat_natCast]) k (by omega)
  rw [e, List.map_id']
theorem toNode_eq : ∀ (n : Nat) (a : S25), goodN25 n a → totT a ≤ 1048576 → ∀ (k : Nat), rnd (toT a) < k → laws_toNode.f k a.f0 a.f1 a.f2 a.f3 a.f4 = some (a.f0, a.f1, a.f2, a.f3, a.f4.map toT)
  | 0, _, h => h.elim
  | n + 1, a, h => by
    intro ht k hk
    obtain ⟨_, _, g2, ⟨g3, g3'⟩, ⟨g4, g4'⟩⟩ := h
    have rt := rnd_eq (toT a)
    rw [toT_eq] at rt hk
    rw [totT_eq] at ht
    simp only [List.length_map, List.map_map] at rt
    obtain ⟨k, rfl⟩ : ∃ m, k = m + 2 := ⟨k - 2, by omega⟩
    have kids : laws_toNodeS.f (k + 1) a.f4 = some (a.f4.map toT) := by
      simp only [laws_toNodeS.f]
      rw [if_pos (by omega), Int.toNat_natCast, if_pos (by omega)]
      refine fill_all (g := fun k acc i => laws_toNodeS.l0 k a.f4 acc i) (K := (a.f4.map (rnd ∘ toT)).sum + 1) toT _ (fun k acc _ => ?_) (fun k acc i hi hk ha => ?_) k (by omega)
      · simp only [laws_toNodeS.l0]; rw [if_neg (by omega)]
      · have hm := List.getElem_mem hi
        have hr : rnd (toT a.f4[i]) ≤ (a.f4.map (rnd ∘ toT)).sum := mem_le_sum (rnd ∘ toT) a.f4 _ hm
        have hs := mem_le_sum totT a.f4 _ hm
        simp only [laws_toNodeS.l0]
        rw [if_pos (by omega), if_pos (by omega), rdT' _ _ hi, toNode_eq n _ (g4' _ hm) (by omega) k (by omega), Option.bind_some, if_pos (by omega), wsucc (by omega), Int.toNat_natCast]
        rw [toT_eq a.f4[i]]
    simp only [laws_toNode.f]
    rw [toStrings_eq _ (by omega) _ (by omega), Option.bind_some, kids, Option.bind_some]
end Go.Proofs.Ytdlhidjphaaklaa.M
