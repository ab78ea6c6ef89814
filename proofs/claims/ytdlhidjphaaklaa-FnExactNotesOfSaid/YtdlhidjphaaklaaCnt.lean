/- How many marks a tree that came in takes. -/
import Derived.Test.YtdlhidjphaaklaaAid
import Derived.Test.YtdlhidjphaaklaaBase
import Derived.Test.YtdlhidjphaaklaaCopy
import Derived.Test.YtdlhidjphaaklaaEv
import Derived.Test.YtdlhidjphaaklaaLists
import Derived.Test.YtdlhidjphaaklaaMark
import Derived.Test.YtdlhidjphaaklaaOwn
import Derived.Test.YtdlhidjphaaklaaTree
import Derived.Test.YtdlhidjphaaklaaTreeIn
namespace Go.Proofs.Ytdlhidjphaaklaa.H
open Go.RowKit Go.Proofs.Ytdlhidjphaaklaa.P Go.Proofs.YtdlhidjphaaklaaW.PrintWords Go.Proofs.Ytdlhidjphaaklaa.M Go.Proofs.Ytdlhidjphaaklaa.O
set_option linter.unusedVariables false

theorem cntK_toT (n : Nat) (a : S25) (h : goodN25 n a) : cntK (toT a) ≤ 3 * totT a + 3 := by
  induction n generalizing a with
  | zero => exact h.elim
  | succ n ih =>
    rw [cntK_eq, totT_eq, toT_eq]
    have : ∀ l : List S25, (∀ x ∈ l, cntK (toT x) ≤ 3 * totT x + 3) → ((l.map toT).map cntK).sum ≤ 3 * (l.map totT).sum + 3 * l.length := by
      intro l
      induction l with
      | nil => intro _; simp
      | cons y ys ihl =>
        intro h
        have h1 := h y (by simp)
        have h2 := ihl (fun z hz => h z (by simp [hz]))
        simp only [List.map_cons, List.sum_cons, List.length_cons]
        omega
    have := this a.f4 (fun x hx => ih x (h.2.2.2.2.2 x hx))
    simp only
    omega
theorem cntR_toT (l : List S25) (hg : ∀ x ∈ l, good25 x) : ((l.map toT).map cntK).sum ≤ 3 * (l.map totT).sum + 3 * l.length := by
  induction l with
  | nil => simp
  | cons y ys ihl =>
    obtain ⟨n, hn⟩ := hg y (by simp)
    have h1 := cntK_toT n y hn
    have h2 := ihl (fun z hz => hg z (by simp [hz]))
    simp only [List.map_cons, List.sum_cons, List.length_cons]
    omega
theorem cntTop_toT (a : S25) (hg : good25 a) : cntTop (toT a) ≤ 3 * totT a := by
  obtain ⟨n, hn⟩ := hg
  have h := cntK_toT n a hn
  rw [cntK_eq] at h
  unfold cntTop
  omega
end Go.Proofs.Ytdlhidjphaaklaa.H
