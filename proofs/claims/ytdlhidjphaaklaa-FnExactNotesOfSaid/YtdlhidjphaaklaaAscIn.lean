/- Keys that a right map has stand ascending. -/
import Derived.Test.YtdlhidjphaaklaaAid
import Derived.Test.YtdlhidjphaaklaaEv
import Derived.Test.YtdlhidjphaaklaaKeys
import Derived.Test.YtdlhidjphaaklaaLists
import Derived.Test.YtdlhidjphaaklaaTok
import Derived.Test.YtdlhidjphaaklaaTree
namespace Go.Proofs.Ytdlhidjphaaklaa.H
open Go.RowKit Go.Proofs.Ytdlhidjphaaklaa.P Go.Proofs.YtdlhidjphaaklaaW.PrintWords Go.Proofs.Ytdlhidjphaaklaa.M
set_option linter.unusedVariables false

theorem keys_at {l : List ByteArray} (h : keysOk l = true) {i : Nat} (hi : i < l.length) : keyB l i = true := by
  unfold keysOk at h
  rw [List.all_eq_true] at h
  exact h i (by rw [List.mem_range']; exact ⟨i, hi, by omega⟩)
theorem keys_lt {l : List ByteArray} (h : keysOk l = true) : ∀ (d i : Nat) (hj : i + d + 1 < l.length), l[i].data.toList < l[i + d + 1].data.toList := by
  have one : ∀ (i : Nat) (hj : i + 1 < l.length), l[i].data.toList < l[i + 1].data.toList := by
    intro i hj
    have := keys_at h hj
    unfold keyB at this
    simp only [Bool.and_eq_true, Bool.or_eq_true, decide_eq_true_eq, Nat.add_sub_cancel] at this
    rcases this.2 with e | e
    · omega
    · rw [getD_at _ _ (by omega), getD_at _ _ hj, Go.Proofs.bytesLess_eq, decide_eq_true_eq, Lib.toList_data, Lib.toList_data] at e
      exact e
  intro d
  induction d with
  | zero => intro i hj; exact one i hj
  | succ d ih =>
    intro i hj
    exact List.lt_trans (ih i (by omega)) (one (i + d + 1) hj)
theorem asc_keys {l : List ByteArray} (h : keysOk l = true) : Asc l := by
  unfold Asc
  rw [List.pairwise_map, List.pairwise_iff_getElem]
  intro i j hi hj hij
  obtain ⟨d, rfl⟩ : ∃ d, j = i + d + 1 := ⟨j - i - 1, by omega⟩
  exact List.le_of_lt (keys_lt h d i hj)
end Go.Proofs.Ytdlhidjphaaklaa.H
