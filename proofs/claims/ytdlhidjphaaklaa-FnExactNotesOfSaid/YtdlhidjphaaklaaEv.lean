/- Rounds enough: loops and recursions told without counting rounds. -/
import Derived.Test.YtdlhidjphaaklaaAid
import Derived.Test.YtdlhidjphaaklaaLists
namespace Go.Proofs.Ytdlhidjphaaklaa.M
open Go.RowKit Go.Proofs.YtdlhidjphaaklaaW.PrintWords

theorem Ev.lift {α : Type} {g f : Nat → Option α} {r : α} (h : ∀ k, g (k + 1) = f k) (k : Ev f r) : Ev g r := Ev.step h k
theorem Ev.eq {α : Type} {g : Nat → Option α} {a r : α} (h : ∀ k, g k = some a) (e : a = r) : Ev g r := ⟨0, fun k _ => by rw [h, e]⟩
theorem Ev.past {α : Type} {g : Nat → Option α} {a : α} {n : Nat} (h : ∀ k, n < k → g k = some a) : Ev g a := ⟨n + 1, fun k hk => h k (by omega)⟩
/-- A loop over a list that folds it. -/
theorem ev_fold {α β σ : Type} {xs : List α} {l0 : Nat → σ → Int → Option β} {step : σ → α → σ} {fin : σ → β} (Inv : Nat → σ → Prop)
    (hend : ∀ s, Inv xs.length s → Ev (fun k => l0 k s (xs.length : Int)) (fin s))
    (hstep : ∀ (i : Nat) (hi : i < xs.length) s r, Inv i s → Inv (i + 1) (step s xs[i]) ∧ (Ev (fun k => l0 k (step s xs[i]) ((i + 1 : Nat) : Int)) r → Ev (fun k => l0 k s (i : Int)) r)) :
    ∀ d i s, i + d = xs.length → Inv i s → Ev (fun k => l0 k s (i : Int)) (fin ((xs.drop i).foldl step s)) := by
  intro d
  induction d with
  | zero =>
    intro i s hi hv
    obtain rfl : i = xs.length := by omega
    rw [List.drop_of_length_le (Nat.le_refl _)]
    exact hend s hv
  | succ d ih =>
    intro i s hi hv
    have hx : i < xs.length := by omega
    obtain ⟨h1, h2⟩ := hstep i hx s (fin ((xs.drop i).foldl step s)) hv
    refine h2 ?_
    rw [List.drop_eq_getElem_cons hx, List.foldl_cons]
    exact ih (i + 1) _ (by omega) h1
theorem ev_fold0 {α β σ : Type} {xs : List α} {l0 : Nat → σ → Int → Option β} {step : σ → α → σ} {fin : σ → β} (Inv : Nat → σ → Prop) (s : σ) (h0 : Inv 0 s)
    (hend : ∀ s, Inv xs.length s → Ev (fun k => l0 k s (xs.length : Int)) (fin s))
    (hstep : ∀ (i : Nat) (hi : i < xs.length) s r, Inv i s → Inv (i + 1) (step s xs[i]) ∧ (Ev (fun k => l0 k (step s xs[i]) ((i + 1 : Nat) : Int)) r → Ev (fun k => l0 k s (i : Int)) r)) :
    Ev (fun k => l0 k s 0) (fin (xs.foldl step s)) := ev_fold Inv hend hstep xs.length 0 s (by omega) h0
/-- A loop over the places 0 .. n that ends with false at the first place where P does not hold. -/
theorem ev_all {n : Nat} {l0 : Nat → Int → Option Bool} {P : Nat → Bool} {e : Bool} (hend : Ev (fun k => l0 k (n : Int)) e)
    (hstep : ∀ (i : Nat), i < n → (P i = true → ∀ r, Ev (fun k => l0 k ((i + 1 : Nat) : Int)) r → Ev (fun k => l0 k (i : Int)) r) ∧ (P i = false → Ev (fun k => l0 k (i : Int)) false)) :
    Ev (fun k => l0 k 0) ((List.range' 0 n).all P && e) := by
  have key : ∀ d i, i + d = n → Ev (fun k => l0 k (i : Int)) ((List.range' i d).all P && e) := by
    intro d
    induction d with
    | zero =>
      intro i hi
      obtain rfl : i = n := by omega
      simpa using hend
    | succ d ih =>
      intro i hi
      rw [List.range'_succ, List.all_cons]
      cases h : P i with
      | true => rw [Bool.true_and]; exact (hstep i (by omega)).1 h _ (ih (i + 1) (by omega))
      | false => rw [Bool.false_and, Bool.false_and]; exact (hstep i (by omega)).2 h
  exact key n 0 (by omega)
theorem all_range_getD {α : Type} (xs : List α) (z : α) (p : α → Bool) : (List.range' 0 xs.length).all (fun i => p (xs.getD i z)) = xs.all p := by
  cases h : xs.all p with
  | true =>
    rw [List.all_eq_true] at h ⊢
    intro i hi
    rw [List.mem_range'] at hi
    obtain ⟨j, hj, rfl⟩ := hi
    have hj' : 0 + 1 * j < xs.length := by omega
    rw [List.getD_eq_getElem?_getD, List.getElem?_eq_getElem hj']
    exact h _ (List.getElem_mem hj')
  | false =>
    rw [List.all_eq_false] at h
    obtain ⟨x, hx, hp⟩ := h
    rw [List.all_eq_false]
    obtain ⟨i, hi, rfl⟩ := List.getElem_of_mem hx
    refine ⟨i, by rw [List.mem_range']; exact ⟨i, hi, by omega⟩, ?_⟩
    rw [List.getD_eq_getElem?_getD, List.getElem?_eq_getElem hi]
    exact hp
end Go.Proofs.Ytdlhidjphaaklaa.M
