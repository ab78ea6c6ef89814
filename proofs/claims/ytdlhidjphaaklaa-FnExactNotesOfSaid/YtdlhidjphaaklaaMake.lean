/- Trees that come in are made into the program's own: what is made owns all its memory. -/
import Derived.Test.YtdlhidjphaaklaaAid
import Derived.Test.YtdlhidjphaaklaaLists
import Derived.Test.YtdlhidjphaaklaaMark
import Derived.Test.YtdlhidjphaaklaaOwn
import Derived.Test.YtdlhidjphaaklaaP_laws_szStringS
import Derived.Test.YtdlhidjphaaklaaTree
import Derived.Test.YtdlhidjphaaklaaTreeIn
namespace Go.Proofs.Ytdlhidjphaaklaa.H
open Go.RowKit Go.Proofs.Ytdlhidjphaaklaa.P Go.Proofs.YtdlhidjphaaklaaW.PrintWords Go.Proofs.Ytdlhidjphaaklaa.M Go.Proofs.Ytdlhidjphaaklaa.O
set_option linter.unusedVariables false
set_option linter.unusedSimpArgs false

theorem SRow_of_R {w : World} {base : Nat} {ok : Nat → Prop} {v : Value} {xs : List ByteArray} (h : Kd.R Kd.string 9 w base ok v xs) : SRow w v xs ∧ ∀ k, v.ownBlock = some k → base ≤ k := by
  obtain ⟨_, inner, ho, hr⟩ := h
  have e : inner = xs.map Value.string := by
    apply List.ext_getElem?
    intro j
    rcases Nat.lt_or_ge j xs.length with hj | hj
    · have h2 : (inner.drop (j * 1)).take 1 = [Value.string xs[j]] := hr.2 j _ (List.getElem?_eq_getElem hj)
      have h3 : ((inner.drop (j * 1)).take 1)[0]? = some (Value.string xs[j]) := by rw [h2]; rfl
      rw [List.getElem?_take, if_pos (by omega), List.getElem?_drop, Nat.mul_one, Nat.add_zero] at h3
      rw [h3, List.getElem?_map, List.getElem?_eq_getElem hj]
      rfl
    · have h2 : inner.length = xs.length * 1 := hr.1
      rw [List.getElem?_eq_none (by omega), List.getElem?_eq_none (by rw [List.length_map]; omega)]
  rw [e] at ho
  exact ⟨own_weaken ho (Nat.zero_le _), fun k hk => (ho.lt k hk).1⟩
theorem toS_calls (A : Option Addr) (c : Nat) (l : List ByteArray) (w : World) (hl : l.length ≤ 1048576) (hr : Kd.C Kd.string w A l.length l) (hc : l.length ≤ c) :
    Calls Try.prog 23 #[.slice A l.length c] w fun e w' => ∃ v, e = .returned v ∧ SRow w' v l ∧ (∀ k, v.ownBlock = some k → w.heap.size ≤ k) ∧ Below w.heap.size w w' :=
  (laws_toStringS.calls (l.length + 1) A c l l w hr hc (toStrings_eq l hl _ (by omega))).mono fun e w' ⟨v, he, hR, hb⟩ => ⟨v, he, (SRow_of_R hR).1, (SRow_of_R hR).2, hb⟩
/-- What toNodeS is to do for a row. -/
def ToRow (l : List S25) : Prop := ∀ (A : Option Addr) (c : Nat) (w : World), k25.C w A l.length l → l.length ≤ c →
    Calls Try.prog 24 #[.slice A l.length c] w fun e w' => ∃ v fss, e = .returned v ∧ ORow w' v (l.map toT) fss ∧ (v.ownBlock.toList ++ fss.flatten).Nodup ∧ (∀ k ∈ v.ownBlock.toList ++ fss.flatten, w.heap.size ≤ k) ∧ Below w.heap.size w w'
/-- .. and toNode for a tree. -/
def ToTree (a : S25) : Prop := ∀ (A3 A4 : Option Addr) (c3 c4 : Nat) (w : World), Kd.C Kd.string w A3 a.f3.length a.f3 → a.f3.length ≤ c3 → k25.C w A4 a.f4.length a.f4 → a.f4.length ≤ c4 →
    Calls Try.prog 7 #[.agg #[.int .i64 a.f0, .int .i64 a.f1, .string a.f2, .slice A3 a.f3.length c3, .slice A4 a.f4.length c4]] w fun e w' => ∃ v3 v4 fss, e = .returned (.agg #[.int .i64 a.f0, .int .i64 a.f1, .string a.f2, v3, v4]) ∧ Top w' v3 v4 (toT a) fss ∧ (∀ k ∈ topFp v3 v4 fss, w.heap.size ≤ k) ∧ Below w.heap.size w w'
set_option maxHeartbeats 4000000 in
set_option maxRecDepth 100000 in
theorem toTree_of (a : S25) (h3 : a.f3.length ≤ 1048576) (hrow : ToRow a.f4) : ToTree a := by
  intro A3 A4 c3 c4 w g3 l3 g4 l4
  have hu := Try.underlying33
  have hu2 := Try.underlying25
  have G3 := Lib.hid g3
  have G4 := Lib.hid g4
  have HR := Lib.hid hrow
  clear g3 g4 hrow
  have HB0 := Lib.hid (Below.refl w.heap.size w)
  go_enter Try.func7, Try.ntmps7
  go_wp2_with (first
    | (go_at_call 23; refine (toS_calls _ _ a.f3 _ h3 (Kd.C_below G3.out (below_alloc (below_alloc (below_alloc (Below.refl _ _) _) _) _)) l3).mono ?_; rintro e w1 ⟨v3, rfl, hs, hl3, hb1⟩; obtain ⟨B3, d3, rfl, m3, n3⟩ := SRow_C hs; have p0 := chg_cell (S := fun _ => False) (Chg.of_same hb1) (a := ⟨w.heap.size + 2, 0, none⟩) (v := .int .i64 a.f0) (by go_simp) id; have p1 := chg_cell (S := fun _ => False) (Chg.of_same hb1) (a := ⟨w.heap.size + 2, 1, none⟩) (v := .int .i64 a.f1) (by go_simp) id; have p2 := chg_cell (S := fun _ => False) (Chg.of_same hb1) (a := ⟨w.heap.size + 2, 2, none⟩) (v := .string a.f2) (by go_simp) id; have p3 := chg_cell (S := fun _ => False) (Chg.of_same hb1) (a := ⟨w.heap.size + 2, 3, none⟩) (v := .slice none 0 0) (by go_simp) id; have p4 := chg_cell (S := fun _ => False) (Chg.of_same hb1) (a := ⟨w.heap.size + 2, 4, none⟩) (v := .slice none 0 0) (by go_simp) id; have b4 := chg_cell (S := fun _ => False) (Chg.of_same hb1) (a := ⟨w.heap.size, 4, none⟩) (v := .slice A4 a.f4.length c4) (by go_simp) id; have q3 : w1.frozen? ⟨w.heap.size + 2, 3, none⟩ = false := (chg_free (S := fun _ => False) (Chg.of_same hb1) (by simp) id).trans (by go_simp); have e0 := chg_cell (S := fun _ => False) (Chg.of_same hb1) (a := ⟨w.heap.size + 1, 0, none⟩) (v := .int .i64 0) (by go_simp) id; have e1 := chg_cell (S := fun _ => False) (Chg.of_same hb1) (a := ⟨w.heap.size + 1, 1, none⟩) (v := .int .i64 0) (by go_simp) id; have e2 := chg_cell (S := fun _ => False) (Chg.of_same hb1) (a := ⟨w.heap.size + 1, 2, none⟩) (v := .string ⟨#[]⟩) (by go_simp) id; have e3 := chg_cell (S := fun _ => False) (Chg.of_same hb1) (a := ⟨w.heap.size + 1, 3, none⟩) (v := .slice none 0 0) (by go_simp) id; have e4 := chg_cell (S := fun _ => False) (Chg.of_same hb1) (a := ⟨w.heap.size + 1, 4, none⟩) (v := .slice none 0 0) (by go_simp) id; have f0 : w1.frozen? ⟨w.heap.size + 1, 0, none⟩ = false := (chg_free (S := fun _ => False) (Chg.of_same hb1) (by simp) id).trans (by go_simp); have f1 : w1.frozen? ⟨w.heap.size + 1, 1, none⟩ = false := (chg_free (S := fun _ => False) (Chg.of_same hb1) (by simp) id).trans (by go_simp); have f2 : w1.frozen? ⟨w.heap.size + 1, 2, none⟩ = false := (chg_free (S := fun _ => False) (Chg.of_same hb1) (by simp) id).trans (by go_simp); have f3 : w1.frozen? ⟨w.heap.size + 1, 3, none⟩ = false := (chg_free (S := fun _ => False) (Chg.of_same hb1) (by simp) id).trans (by go_simp); have f4 : w1.frozen? ⟨w.heap.size + 1, 4, none⟩ = false := (chg_free (S := fun _ => False) (Chg.of_same hb1) (by simp) id).trans (by go_simp); have q4a : w1.frozen? ⟨w.heap.size + 2, 4, none⟩ = false := (chg_free (S := fun _ => False) (Chg.of_same hb1) (by simp) id).trans (by go_simp); have HB1 := Lib.hid ((below_alloc (below_alloc (below_alloc (Below.refl w.heap.size w) _) _) _).trans (hb1.mono (by simp <;> omega))); have HS := Lib.hid hs; have HL3 := Lib.hid (fun k hk => Nat.le_trans (by simp <;> omega) (hl3 k hk) : ∀ k, (Value.slice B3 a.f3.length d3).ownBlock = some k → w.heap.size + 3 ≤ k); have HZ1 := Lib.hid hb1.size; clear hs hl3 hb1 n3)
    | (go_at_call 24; go_loud (refine (HR.out _ _ _ (Kd.C_below G4.out (HB1.out.setCell (by simp <;> omega) _)) l4).mono ?_; rintro e w2 ⟨v4, fss, rfl, ho, hn, hl4, hb2⟩; obtain ⟨B4, d4, rfl, m4, n4⟩ := ORow_C ho; rw [List.length_map] at *; have r0 := chg_cell (S := fun _ => False) (Chg.of_same hb2) (a := ⟨w.heap.size + 2, 0, none⟩) (v := .int .i64 a.f0) (by go_simp) id; have r1 := chg_cell (S := fun _ => False) (Chg.of_same hb2) (a := ⟨w.heap.size + 2, 1, none⟩) (v := .int .i64 a.f1) (by go_simp) id; have r2 := chg_cell (S := fun _ => False) (Chg.of_same hb2) (a := ⟨w.heap.size + 2, 2, none⟩) (v := .string a.f2) (by go_simp) id; have r3 := chg_cell (S := fun _ => False) (Chg.of_same hb2) (a := ⟨w.heap.size + 2, 3, none⟩) (v := .slice B3 a.f3.length d3) (by go_simp) id; have r4 := chg_cell (S := fun _ => False) (Chg.of_same hb2) (a := ⟨w.heap.size + 2, 4, none⟩) (v := .slice none 0 0) (by go_simp) id; have q4 : w2.frozen? ⟨w.heap.size + 2, 4, none⟩ = false := (chg_free (S := fun _ => False) (Chg.of_same hb2) (by have := HZ1.out; simp at this ⊢; omega) id).trans (by go_simp); have g0 := chg_cell (S := fun _ => False) (Chg.of_same hb2) (a := ⟨w.heap.size + 1, 0, none⟩) (v := .int .i64 0) (by go_simp) id; have g1 := chg_cell (S := fun _ => False) (Chg.of_same hb2) (a := ⟨w.heap.size + 1, 1, none⟩) (v := .int .i64 0) (by go_simp) id; have g2 := chg_cell (S := fun _ => False) (Chg.of_same hb2) (a := ⟨w.heap.size + 1, 2, none⟩) (v := .string ⟨#[]⟩) (by go_simp) id; have g3 := chg_cell (S := fun _ => False) (Chg.of_same hb2) (a := ⟨w.heap.size + 1, 3, none⟩) (v := .slice none 0 0) (by go_simp) id; have g4 := chg_cell (S := fun _ => False) (Chg.of_same hb2) (a := ⟨w.heap.size + 1, 4, none⟩) (v := .slice none 0 0) (by go_simp) id; have j0 : w2.frozen? ⟨w.heap.size + 1, 0, none⟩ = false := (chg_free (S := fun _ => False) (Chg.of_same hb2) (by have := HZ1.out; simp at this ⊢; omega) id).trans (by go_simp); have j1 : w2.frozen? ⟨w.heap.size + 1, 1, none⟩ = false := (chg_free (S := fun _ => False) (Chg.of_same hb2) (by have := HZ1.out; simp at this ⊢; omega) id).trans (by go_simp); have j2 : w2.frozen? ⟨w.heap.size + 1, 2, none⟩ = false := (chg_free (S := fun _ => False) (Chg.of_same hb2) (by have := HZ1.out; simp at this ⊢; omega) id).trans (by go_simp); have j3 : w2.frozen? ⟨w.heap.size + 1, 3, none⟩ = false := (chg_free (S := fun _ => False) (Chg.of_same hb2) (by have := HZ1.out; simp at this ⊢; omega) id).trans (by go_simp); have j4 : w2.frozen? ⟨w.heap.size + 1, 4, none⟩ = false := (chg_free (S := fun _ => False) (Chg.of_same hb2) (by have := HZ1.out; simp at this ⊢; omega) id).trans (by go_simp); have HB2 := Lib.hid hb2; have HO := Lib.hid ho; have HN := Lib.hid hn; have HL4 := Lib.hid hl4; clear hb2 ho hn hl4 n4)))
  have hS1 : w.heap.size + 1 < w.heap.size + 3 := by omega
  have hS2 : w.heap.size + 2 < w.heap.size + 3 := by omega
  have HZ : w1.heap.size = (w1.setCell ⟨w.heap.size + 2, 3, none⟩ (.slice B3 a.f3.length d3)).heap.size := by simp [World.setCell]
  have HZw : w.heap.size + 3 ≤ w1.heap.size := by have := HZ1.out; simp at this; omega
  have HB12 : Below w.heap.size w w2 := (HB1.out.setCell (p := ⟨w.heap.size + 2, 3, none⟩) (Nat.le_add_right _ _) _).trans (HB2.out.mono (by have := HZw; simp [World.setCell]; omega))
  have HL4' : ∀ k ∈ (Value.slice B4 a.f4.length d4).ownBlock.toList ++ fss.flatten, w1.heap.size ≤ k := fun k hk => Nat.le_trans (Nat.le_of_eq HZ) (HL4.out k hk)
  have hs2 : SRow w2 (.slice B3 a.f3.length d3) a.f3 := own_chg HS.out ((Chg.set (S := fun k => k < w.heap.size + 3) w1 ⟨w.heap.size + 2, 3, none⟩ _ hS2).trans (Chg.of_same HB2.out)) (fun k hk => by have := HL3.out k hk; omega)
  have hnd : ((Value.slice B3 a.f3.length d3).ownBlock.toList ++ ((Value.slice B4 a.f4.length d4).ownBlock.toList ++ fss.flatten)).Nodup := by
    refine List.nodup_append.2 ⟨?_, HN.out, fun k hk m hm => ?_⟩
    · cases (Value.slice B3 a.f3.length d3).ownBlock <;> simp
    · have h1 := (HS.out.lt k (mem_own.1 hk)).2
      have h2 := HL4' m hm
      omega
  have htop : Top w2 (.slice B3 a.f3.length d3) (.slice B4 a.f4.length d4) (toT a) fss := by
    unfold Top
    rw [toT_eq]
    exact ⟨hs2, HO.out, hnd⟩
  have hfp : ∀ k ∈ topFp (.slice B3 a.f3.length d3) (.slice B4 a.f4.length d4) fss, w.heap.size + 3 ≤ k := fun k hk => by
    simp only [topFp, List.mem_append, mem_own] at hk
    rcases hk with hk | hk
    · exact HL3.out k hk
    · have := HL4' k (by simp only [List.mem_append, mem_own]; exact hk)
      omega
  exact bodyPost_ret (v := .agg #[.int .i64 a.f0, .int .i64 a.f1, .string a.f2, .slice B3 a.f3.length d3, .slice B4 a.f4.length d4]) (by simp [results, Try.results7, go_sem, r0, r1, r2, r3, r4, q4, g0, g1, g2, g3, g4]) rfl
    ⟨_, _, fss, rfl, Top_chg (S := fun k => k < w.heap.size + 3) htop ((((((Chg.set w2 ⟨w.heap.size + 2, 4, none⟩ _ hS2).trans (Chg.set _ ⟨w.heap.size + 1, 0, none⟩ _ hS1)).trans (Chg.set _ ⟨w.heap.size + 1, 1, none⟩ _ hS1)).trans (Chg.set _ ⟨w.heap.size + 1, 2, none⟩ _ hS1)).trans (Chg.set _ ⟨w.heap.size + 1, 3, none⟩ _ hS1)).trans (Chg.set _ ⟨w.heap.size + 1, 4, none⟩ _ hS1)) (fun k hk e => by have := hfp k hk; omega), fun k hk => by have := hfp k hk; omega, (((((HB12.setCell (p := ⟨w.heap.size + 2, 4, none⟩) (Nat.le_add_right _ _) _).setCell (p := ⟨w.heap.size + 1, 0, none⟩) (Nat.le_add_right _ _) _).setCell (p := ⟨w.heap.size + 1, 1, none⟩) (Nat.le_add_right _ _) _).setCell (p := ⟨w.heap.size + 1, 2, none⟩) (Nat.le_add_right _ _) _).setCell (p := ⟨w.heap.size + 1, 3, none⟩) (Nat.le_add_right _ _) _).setCell (p := ⟨w.heap.size + 1, 4, none⟩) (Nat.le_add_right _ _) _⟩
/-- An element's five cells, written. -/
def set5 (inner : List Value) (i : Nat) (u0 u1 u2 u3 u4 : Value) : List Value := ((((inner.set (i * 5) u0).set (i * 5 + 1) u1).set (i * 5 + 2) u2).set (i * 5 + 3) u3).set (i * 5 + 4) u4
theorem set5_len (inner : List Value) (i : Nat) (u0 u1 u2 u3 u4 : Value) : (set5 inner i u0 u1 u2 u3 u4).length = inner.length := by simp [set5]
theorem set5_same {inner : List Value} {n i : Nat} (hl : inner.length = n * 5) (hi : i < n) (u0 u1 u2 u3 u4 : Value) : ((set5 inner i u0 u1 u2 u3 u4).drop (i * 5)).take 5 = [u0, u1, u2, u3, u4] := by
  have h5 : i * 5 + 5 ≤ n * 5 := by rw [← Nat.succ_mul]; exact Nat.mul_le_mul_right _ (by omega)
  apply List.ext_getElem?
  intro j
  rw [List.getElem?_take]
  unfold set5
  by_cases hj : j < 5
  · rw [if_pos hj, List.getElem?_drop, List.getElem?_set, List.getElem?_set, List.getElem?_set, List.getElem?_set, List.getElem?_set]
    simp only [List.length_set]
    rcases j with _ | _ | _ | _ | _ | j
    · rw [if_neg (by omega), if_neg (by omega), if_neg (by omega), if_neg (by omega), if_pos (by omega), if_pos (by omega)]; rfl
    · rw [if_neg (by omega), if_neg (by omega), if_neg (by omega), if_pos (by omega), if_pos (by omega)]; rfl
    · rw [if_neg (by omega), if_neg (by omega), if_pos (by omega), if_pos (by omega)]; rfl
    · rw [if_neg (by omega), if_pos (by omega), if_pos (by omega)]; rfl
    · rw [if_pos (by omega), if_pos (by omega)]; rfl
    · omega
  · rw [if_neg hj]
    symm
    exact List.getElem?_eq_none (by simp; omega)
theorem set5_other {inner : List Value} {i j : Nat} (hne : i ≠ j) (u0 u1 u2 u3 u4 : Value) : ((set5 inner i u0 u1 u2 u3 u4).drop (j * 5)).take 5 = (inner.drop (j * 5)).take 5 := by
  apply List.ext_getElem?
  intro k
  rw [List.getElem?_take, List.getElem?_take]
  unfold set5
  by_cases hk : k < 5
  · rw [if_pos hk, if_pos hk, List.getElem?_drop, List.getElem?_drop, List.getElem?_set_ne (by omega), List.getElem?_set_ne (by omega), List.getElem?_set_ne (by omega), List.getElem?_set_ne (by omega), List.getElem?_set_ne (by omega)]
  · rw [if_neg hk, if_neg hk]
theorem own_set5 {w : World} {b e s n g cap i : Nat} {xs : List Value} (h : w.ownsRow b e s (.slice (some ⟨g, 0, none⟩) n cap) n xs) (hi : i * 5 + 5 ≤ xs.length) (u0 u1 u2 u3 u4 : Value) :
    (((((w.setCell ⟨g, i * 5, none⟩ u0).setCell ⟨g, i * 5 + 1, none⟩ u1).setCell ⟨g, i * 5 + 2, none⟩ u2).setCell ⟨g, i * 5 + 3, none⟩ u3).setCell ⟨g, i * 5 + 4, none⟩ u4).ownsRow b e s (.slice (some ⟨g, 0, none⟩) n cap) n (set5 xs i u0 u1 u2 u3 u4) :=
  own_set (own_set (own_set (own_set (own_set h (i * 5) u0 (by omega)) (i * 5 + 1) u1 (by simp only [List.length_set]; omega)) (i * 5 + 2) u2 (by simp only [List.length_set]; omega)) (i * 5 + 3) u3 (by simp only [List.length_set]; omega)) (i * 5 + 4) u4 (by simp only [List.length_set]; omega)
theorem chg_set5 {S : Nat → Prop} (w : World) (g i : Nat) (u0 u1 u2 u3 u4 : Value) (hg : S g) : Chg S w (((((w.setCell ⟨g, i * 5, none⟩ u0).setCell ⟨g, i * 5 + 1, none⟩ u1).setCell ⟨g, i * 5 + 2, none⟩ u2).setCell ⟨g, i * 5 + 3, none⟩ u3).setCell ⟨g, i * 5 + 4, none⟩ u4) :=
  ((((Chg.set w ⟨g, i * 5, none⟩ u0 hg).trans (Chg.set _ ⟨g, i * 5 + 1, none⟩ u1 hg)).trans (Chg.set _ ⟨g, i * 5 + 2, none⟩ u2 hg)).trans (Chg.set _ ⟨g, i * 5 + 3, none⟩ u3 hg)).trans (Chg.set _ ⟨g, i * 5 + 4, none⟩ u4 hg)
set_option maxHeartbeats 8000000 in
set_option maxRecDepth 100000 in
theorem toRow_of (l : List S25) (hl : l.length ≤ 1048576) (hk : ∀ x ∈ l, ToTree x) : ToRow l := by
  intro A c w hr hc
  have hu := Try.underlying33
  have hu2 := Try.underlying25
  obtain ⟨i0, hi, hz0, hz1, hz2⟩ := info_parts info33
  have HIb : i0.bytes * l.length ≤ 281474976710656 := by rw [hz2]; omega
  have HI := Lib.hid hi
  have HZ0 := Lib.hid hz0
  have HZ1 := Lib.hid hz1
  have HR := Lib.hid hr
  have HK := Lib.hid hk
  have hlm : l.length ≤ maxLen := by unfold maxLen; omega
  have HLM := Lib.hid hlm
  clear hi hz0 hz1 hz2 hr hk hlm
  go_enter Try.func24, Try.ntmps24
  go_wp2_with ((with_reducible refine gate_dst (N := 7) rfl ?_); refine wpList_make_full _ rfl _ _ 31 rfl w.heap.size 33 i0 _ 5 Try.underlying31 HI.out HZ0.out HZ1.out _ _ _ _ l.length rfl rfl rfl rfl HIb HLM.out (Nat.le_refl _) ?_; intro w1 hown hgr; have HO := Lib.hid (own_weaken hown (Nat.zero_le _)); have HB := Lib.hid ((Below.refl w.heap.size w).grown hgr (Nat.le_refl _) (fun k hk => by cases hk)); clear hown hgr)
  obtain ⟨inr0, HO0⟩ : ∃ inr0, Hid (w1.ownsRow 0 33 5 (.slice (some ⟨w.heap.size, 0, none⟩) l.length l.length) l.length inr0) := ⟨_, HO⟩
  clear HO
  go_loopg [4] (l.length + 1) (fun kq v4 w' => ∃ (i : Nat) (inr : List Value) (fs : List (List Nat)), v4 = .int .i64 i ∧ i ≤ l.length ∧ kq + i = l.length + 1 ∧ Aside0 (w'.ownsRow 0 33 5 (.slice (some ⟨w.heap.size, 0, none⟩) l.length l.length) l.length inr) ∧ Aside0 (fs.length = i) ∧ Aside0 (∀ j (hj : j < l.length) f, fs[j]? = some f → OT w' (toT l[j]) ((inr.drop (j * 5)).take 5) f) ∧ Aside0 (fs.flatten.Nodup) ∧ Aside0 (∀ k ∈ fs.flatten, w.heap.size + 1 ≤ k) ∧ Aside0 (Below w.heap.size w w'))
  case atStart => exact ⟨0, inr0, [], rfl, Nat.zero_le _, by omega, ⟨HO0.out⟩, ⟨rfl⟩, ⟨fun j hj f hf => by simp at hf⟩, ⟨by simp⟩, ⟨fun k hk => by simp at hk⟩, ⟨HB.out⟩⟩
  case round =>
    obtain ⟨i, inr, fs, rfl, hi, hq, HRr, HF, HT, HN, HG, HBr⟩ := hrel
    obtain ⟨k1, rfl⟩ : ∃ k1, gk = k1 + 1 := ⟨gk - 1, by omega⟩
    by_cases hlt : i < l.length
    · have hltb : decide (i < l.length) = true := decide_eq_true hlt
      obtain ⟨ad, A3, c3, A4, c4, ea, x0, x1, x2, x3, x4, l3, g3, l4, g4⟩ := at_T25 (Kd.C_below HR.out HBr.out) (i : Int) (by omega) (by omega)
      have er : rd_T25 l (i : Int) = l[i] := rdT' l i hlt
      rw [er] at x0 x1 x2 x3 x4 l3 g3 l4 g4
      rw [Int.toNat_natCast] at x0 x1 x2 x3 x4
      subst ea
      have G3 := Lib.hid g3
      have G4 := Lib.hid g4
      clear g3 g4 er
      have HI5 : Hid (i * 5 + 5 ≤ inr.length) := by have h5 : inr.length = l.length * 5 := HRr.out.1; show _ ≤ _; rw [h5, ← Nat.succ_mul]; exact Nat.mul_le_mul_right _ (by omega)
      go_wp2_with (go_at_call 7; refine (HK.out l[i] (List.getElem_mem hlt) _ _ _ _ _ G3.out l3 G4.out l4).mono ?_; rintro e w2 ⟨v3, v4, gss, rfl, ht, hg2, hb2⟩; obtain ⟨B3, d3, rfl, m3, n3⟩ := SRow_C ht.1; obtain ⟨B4, d4, rfl, m4, n4⟩ := ORow_C ht.2.1; have HB2 := Lib.hid hb2; have HT2 := Lib.hid ht; have HG2 := Lib.hid hg2; have HR1 := Lib.hid (own_below HRr.out HB2.out); clear hb2 ht hg2 n3 n4; obtain ⟨e0, y0, z0⟩ := own_at HR1.out (i * 5) (by have := HI5.out; omega); obtain ⟨e1, y1, z1⟩ := own_at HR1.out (i * 5 + 1) (by have := HI5.out; omega); obtain ⟨e2, y2, z2⟩ := own_at HR1.out (i * 5 + 2) (by have := HI5.out; omega); obtain ⟨e3, y3, z3⟩ := own_at HR1.out (i * 5 + 3) (by have := HI5.out; omega); obtain ⟨e4, y4, z4⟩ := own_at HR1.out (i * 5 + 4) (by have := HI5.out; omega))
      have hgl : w.heap.size < wr.heap.size := by
        obtain ⟨_, h2⟩ := HRr.out
        rcases h2 with ⟨h0, _⟩ | ⟨g', cap', cur, hv, _, hg, _⟩
        · cases h0
        · injection hv with q1 _ _
          injection q1 with q1
          injection q1 with q1
          subst q1
          exact (Array.getElem?_eq_some_iff.1 hg).1
      have HGL := Lib.hid hgl
      clear hgl
      go_roundg k1
      case rel =>
        have hfp := fun k hk => HG2.out k hk
        have hne : ∀ k ∈ topFp (.slice B3 (toT l[i]).f3.length d3) (.slice B4 (toT l[i]).f4.length d4) gss, ¬ k = w.heap.size := fun k hk e => by have h1 := hfp k hk; have h2 := HGL.out; omega
        refine ⟨i + 1, _, fs ++ [topFp (.slice B3 (toT l[i]).f3.length d3) (.slice B4 (toT l[i]).f4.length d4) gss], by go_num, by omega, by omega, ⟨own_set5 HR1.out HI5.out _ _ _ _ _⟩, ⟨by rw [List.length_append, HF.out]; rfl⟩, ⟨fun j hj f hf => ?_⟩, ⟨?_⟩, ⟨fun k hk => ?_⟩, ⟨?_⟩⟩
        · rcases Nat.lt_or_ge j i with hji | hji
          · rw [List.getElem?_append_left (by rw [HF.out]; exact hji)] at hf
            rw [set5_other (by omega)]
            refine OT_chg (S := fun k => k = w.heap.size) ((Chg.of_same HB2.out).trans (chg_set5 _ _ _ _ _ _ _ _ rfl)) _ _ _ (HT.out j hj f hf) (fun k hk e => ?_)
            have := HG.out k (mem_flat hf hk)
            omega
          · have hjl := (List.getElem?_eq_some_iff.1 hf).1
            rw [List.length_append, HF.out, List.length_singleton] at hjl
            obtain rfl : j = i := by omega
            rw [List.getElem?_append_right (by rw [HF.out]; exact Nat.le_refl _), HF.out, Nat.sub_self] at hf
            obtain rfl := Option.some.inj hf
            rw [set5_same HRr.out.1 hlt]
            have htop := Top_chg (S := fun k => k = w.heap.size) HT2.out (chg_set5 w2 w.heap.size j (.int .i64 l[j].f0) (.int .i64 l[j].f1) (.string l[j].f2) (.slice B3 (toT l[j]).f3.length d3) (.slice B4 (toT l[j]).f4.length d4) rfl) hne
            rw [OT_iff]
            exact ⟨_, _, gss, by simp only [toT_eq], htop.1, htop.2.1, rfl⟩
        · rw [List.flatten_append, List.flatten_singleton]
          refine List.nodup_append.2 ⟨HN.out, HT2.out.2.2, fun k hk m hm e => ?_⟩
          obtain ⟨f, hf, hkf⟩ := List.mem_flatten.1 hk
          obtain ⟨j, hj, rfl⟩ := List.getElem_of_mem hf
          have hj2 : j < l.length := by have := HF.out; omega
          have h1 := OT_lt _ _ _ (HT.out j hj2 _ (List.getElem?_eq_getElem hj)) k hkf
          have h2 := hfp m hm
          omega
        · rw [List.flatten_append, List.flatten_singleton, List.mem_append] at hk
          rcases hk with hk | hk
          · exact HG.out k hk
          · have h1 := hfp k hk
            have h2 := HGL.out
            omega
        · exact (HBr.out.trans (HB2.out.mono (by have := HBr.out.size; omega))).trans ((chg_set5 (S := fun k => k = w.heap.size) w2 w.heap.size i _ _ _ _ _ rfl).below (fun k e => by omega) (by have h1 := HBr.out.size; have h2 := HB2.out.size; omega))
      case measure => omega
    · go_wp2
      go_ret
      obtain rfl : i = l.length := by omega
      have hlt2 : ∀ k ∈ fs.flatten, ¬ k = w.heap.size := fun k hk e => by have := HG.out k hk; omega
      refine ⟨_, fs, rfl, ⟨inr, by rw [List.length_map]; exact HRr.out, by rw [List.length_map, HF.out], fun j hj f hf => ?_⟩, ?_, fun k hk => ?_, HBr.out⟩
      · rw [List.getElem_map]
        exact HT.out j (by simpa using hj) f hf
      · exact List.nodup_append.2 ⟨by simp [Value.ownBlock], HN.out, fun k hk m hm e => by
          simp [Value.ownBlock] at hk
          exact hlt2 m hm (by omega)⟩
      · rcases List.mem_append.1 hk with hk | hk
        · simp [Value.ownBlock] at hk
          omega
        · have := HG.out k hk
          omega
/-- Trees that come in, each small enough. -/
theorem toTree_all (n : Nat) (a : S25) (h : goodN25 n a) (ht : totT a ≤ 1048576) : ToTree a := by
  induction n generalizing a with
  | zero => exact h.elim
  | succ n ih =>
    have e := totT_eq a
    refine toTree_of a (by omega) (toRow_of a.f4 (by omega) (fun x hx => ih x (h.2.2.2.2.2 x hx) ?_))
    have := mem_le_sum totT a.f4 x hx
    omega
end Go.Proofs.Ytdlhidjphaaklaa.H
