/- The functions that look at a text byte by byte: what program and reference answer is one and the same plain function. -/
import Derived.Test.YtdlhidjphaaklaaAid
import Derived.Test.YtdlhidjphaaklaaIn
import Derived.Test.YtdlhidjphaaklaaP_impl_size
import Derived.Test.YtdlhidjphaaklaaP_laws_eqNode
namespace Go.Proofs.Ytdlhidjphaaklaa.M
open Go.RowKit Go.Proofs.Ytdlhidjphaaklaa.P Go.Proofs.YtdlhidjphaaklaaW.PrintWords

theorem spec_textOk (s : ByteArray) (hs : s.size ≤ 140737488351232) (k : Nat) (hk : s.size < k) : spec_TextOk.f k s = some (textOk s) := by
  unfold spec_TextOk.f textOk
  refine scan0 (g := fun k i => spec_TextOk.l0 k s i) (fun k => ?_) (fun k i hi => ?_) k hk
  · simp only [spec_TextOk.l0]
    rw [if_neg (by omega)]
  · simp only [spec_TextOk.l0]
    rw [if_pos (by omega), if_pos (by omega), wsucc (by omega)]
    unfold textB
    by_cases h : bt s i < 32
    · have h1 : ¬ 32 ≤ bt s i := by omega
      rw [if_pos h]; simp [h1]
    · have h1 : 32 ≤ bt s i := by omega
      rw [if_neg h]
      by_cases h2 : bt s i > 126
      · have h3 : ¬ bt s i ≤ 126 := by omega
        rw [if_pos h2]; simp [h3]
      · have h3 : bt s i ≤ 126 := by omega
        rw [if_neg h2]; simp [h1, h3]
theorem impl_textOk (s : ByteArray) (hs : s.size ≤ 140737488351232) (k : Nat) (hk : s.size < k) : impl_TextOk.f k s = some (textOk s) := by
  unfold impl_TextOk.f textOk
  refine scan0 (g := fun k i => impl_TextOk.l0 k s (s.size : Int) i) (fun k => ?_) (fun k i hi => ?_) k hk
  · simp only [impl_TextOk.l0]
    rw [if_neg (by omega)]
  · simp only [impl_TextOk.l0]
    have hb := bt_range s i
    rw [if_pos (by omega), if_pos (by omega), if_pos (by omega), wsucc (by omega), w64 (by omega) (by omega), from_eq, Option.bind_some]
    rfl
end Go.Proofs.Ytdlhidjphaaklaa.M
