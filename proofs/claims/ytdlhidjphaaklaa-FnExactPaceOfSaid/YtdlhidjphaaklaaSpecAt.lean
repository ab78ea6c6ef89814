/- The reference's Get finds what the program's finds. -/
import Derived.Test.YtdlhidjphaaklaaAid
import Derived.Test.YtdlhidjphaaklaaBase
import Derived.Test.YtdlhidjphaaklaaCopy
import Derived.Test.YtdlhidjphaaklaaEv
import Derived.Test.YtdlhidjphaaklaaGet
import Derived.Test.YtdlhidjphaaklaaLists
import Derived.Test.YtdlhidjphaaklaaMark
import Derived.Test.YtdlhidjphaaklaaOwn
import Derived.Test.YtdlhidjphaaklaaP_spec_l7In
namespace Go.Proofs.Ytdlhidjphaaklaa.H
open Go.RowKit Go.Proofs.Ytdlhidjphaaklaa.P Go.Proofs.YtdlhidjphaaklaaW.PrintWords Go.Proofs.Ytdlhidjphaaklaa.M
set_option linter.unusedVariables false

/-- Where a map's Key lies, as the reference has it. -/
noncomputable def atI (x : S33) (key : ByteArray) : Int := if x.f0 = 5 then (match kAt x.f3 key with | some i => if i < x.f4.length then (i : Int) else -1 | none => -1) else -1
theorem l3At_ev (x : S33) (key : ByteArray) (h3 : x.f3.length ≤ 1099511627776) : Ev (fun k => spec_l3At.f k x.f0 x.f1 x.f2 x.f3 x.f4 key) (atI x key) := by
  have main : ∀ d i, i + d = x.f3.length → (∀ j, j < i → x.f3.getD j ByteArray.empty ≠ key) → Ev (fun k => spec_l3At.l0 k key (i : Int) x.f0 x.f1 x.f2 x.f3 x.f4) (atI x key) := by
    intro d
    have stop : ∀ i : Nat, atI x key = -1 → Ev (fun k => spec_l3At.j1 k key (i : Int) false x.f0 x.f1 x.f2 x.f3 x.f4) (atI x key) := fun i e => by
      refine Ev.step (f := fun _ => some (-1)) (fun k => by simp [spec_l3At.j1]) ?_
      rw [e]
      exact Ev.now _
    induction d with
    | zero =>
      intro i hi hj
      obtain rfl : i = x.f3.length := by omega
      refine Ev.step (f := fun k => spec_l3At.j1 k key (x.f3.length : Int) false x.f0 x.f1 x.f2 x.f3 x.f4) (fun k => by simp only [spec_l3At.l0]; rw [if_neg (by omega)]) (stop _ ?_)
      unfold atI
      rw [kAt_miss hj]
      split <;> rfl
    | succ d ih =>
      intro i hi hj
      by_cases h4 : i < x.f4.length
      · refine Ev.step (f := fun k => spec_l3At.j1 k key (i : Int) (x.f0 == 5) x.f0 x.f1 x.f2 x.f3 x.f4) (fun k => by simp only [spec_l3At.l0]; rw [if_pos (by omega), if_pos (by omega)]) ?_
        by_cases h5 : x.f0 = 5
        · rw [show (x.f0 == 5) = true by rw [h5]; rfl]
          have e : rdOf ByteArray.empty x.f3 (i : Int) = x.f3.getD i ByteArray.empty := rfl
          by_cases hk : x.f3.getD i ByteArray.empty = key
          · refine Ev.step (f := fun _ => some (i : Int)) (fun k => by simp only [spec_l3At.j1]; rw [if_pos trivial, if_pos (by omega), if_pos (by omega), e, if_pos (by rw [hk])]) ?_
            have : atI x key = i := by
              unfold atI
              rw [if_pos h5, kAt_eq ⟨by omega, hk, hj⟩]
              simp only
              rw [if_pos h4]
            rw [this]
            exact Ev.now _
          · refine Ev.step (f := fun k => spec_l3At.l0 k key ((i + 1 : Nat) : Int) x.f0 x.f1 x.f2 x.f3 x.f4) (fun k => by simp only [spec_l3At.j1]; rw [if_pos trivial, if_pos (by omega), if_pos (by omega), e, if_neg (fun h => hk (tlb.1 h)), wsucc (by omega)]) ?_
            refine ih (i + 1) (by omega) (fun j hj2 => ?_)
            rcases Nat.lt_or_ge j i with h | h
            · exact hj j h
            · obtain rfl : j = i := by omega
              exact hk
        · rw [show (x.f0 == 5) = false by simp [h5]]
          refine stop i ?_
          unfold atI
          rw [if_neg h5]
      · refine Ev.step (f := fun k => spec_l3At.j1 k key (i : Int) false x.f0 x.f1 x.f2 x.f3 x.f4) (fun k => by simp only [spec_l3At.l0]; rw [if_pos (by omega), if_neg (by omega)]) (stop _ ?_)
        unfold atI
        split
        · cases hq : kAt x.f3 key with
          | none => rfl
          | some j =>
            simp only
            have := (kAt_some hq).2.1
            rw [if_neg (fun hlt => hj j (by omega) this)]
        · rfl
  unfold spec_l3At.f
  exact main x.f3.length 0 (by omega) (fun j hj => absurd hj (Nat.not_lt_zero _))
theorem atI_get (x : S33) (key : ByteArray) : (atI x key = -1 ∧ getK x key = none) ∨ ∃ i : Nat, ∃ h : i < x.f4.length, i < x.f3.length ∧ atI x key = i ∧ getK x key = some x.f4[i] ∧ kAt x.f3 key = some i ∧ x.f0 = 5 := by
  unfold atI getK
  split
  · cases hq : kAt x.f3 key with
    | none => exact .inl ⟨rfl, rfl⟩
    | some j =>
      simp only
      by_cases hj : j < x.f4.length
      · exact .inr ⟨j, hj, (kAt_some hq).1, by rw [if_pos hj], by rw [Option.bind_some, List.getElem?_eq_getElem hj], rfl, by assumption⟩
      · exact .inl ⟨by rw [if_neg hj], by rw [Option.bind_some, List.getElem?_eq_none (by omega)]⟩
  · exact .inl ⟨rfl, rfl⟩
end Go.Proofs.Ytdlhidjphaaklaa.H
