/- Quote: program and reference write the same bytes. -/
import Derived.Test.YtnbnpgjgibcmpaaAid
import Derived.Test.YtnbnpgjgibcmpaaBytes
import Derived.Test.YtnbnpgjgibcmpaaP_spec_Braced
import Derived.Test.YtnbnpgjgibcmpaaP_spec_Quote
namespace Go.Proofs.Ytnbnpgjgibcmpaa.M
open Go.RowKit Go.Proofs.Ytnbnpgjgibcmpaa.P Go.Proofs.YtnbnpgjgibcmpaaW.PrintWords

theorem drop_bytes (s : ByteArray) (i : Nat) (h : i < s.size) : (bytesOf s).drop i = bt s i :: (bytesOf s).drop (i + 1) := by
  have hl : i < (bytesOf s).length := by rw [bytesOf_length]; exact h
  rw [List.drop_eq_getElem_cons hl]
  congr 1
  have := rd_bytesOf s i
  unfold rd at this
  rw [Int.toNat_natCast, List.getD_eq_getElem?_getD, List.getElem?_eq_getElem hl] at this
  exact this
def esc (c : Int) : List Int := if c = 34 ∨ c = 92 then [92, c] else [c]
def escs (l : List Int) : List Int := l.flatMap esc
theorem escs_cons (c : Int) (l : List Int) : escs (c :: l) = esc c ++ escs l := by simp [escs]
def quoteL (l : List Int) : List Int := 34 :: (escs l ++ [34])
def quote (s : ByteArray) : ByteArray := if textOk s = true then strOfNums (quoteL (bytesOf s)) else ⟨#[]⟩
theorem quote_loop (s : ByteArray) (hs : s.size ≤ 1048576) : ∀ (d i k : Nat) (out : List Int), i + d = s.size → d < k → out.length + 2 * d < 140737488355328 →
    spec_Quote.l0 k s out (i : Int) = some (strOfNums (out ++ escs ((bytesOf s).drop i) ++ [34])) := by
  intro d
  induction d with
  | zero =>
    intro i k out hi hk hl
    obtain ⟨k, rfl⟩ : ∃ m, k = m + 1 := ⟨k - 1, by omega⟩
    obtain rfl : i = s.size := by omega
    simp only [spec_Quote.l0]
    rw [if_neg (by omega), if_pos (by omega), List.drop_of_length_le (by rw [bytesOf_length]; omega)]
    simp [escs]
  | succ d ih =>
    intro i k out hi hk hl
    obtain ⟨k, rfl⟩ : ∃ m, k = m + 1 := ⟨k - 1, by omega⟩
    simp only [spec_Quote.l0]
    rw [if_pos (by omega), if_pos (by omega), wsucc (by omega), drop_bytes s i (by omega), escs_cons]
    by_cases h1 : bt s i = 34
    · rw [if_pos h1, if_pos (by omega), Option.bind_some, if_pos (by simp; omega), ih (i + 1) k _ (by omega) (by omega) (by simp; omega)]
      simp [esc, h1]
    · rw [if_neg h1]
      by_cases h2 : bt s i = 92
      · rw [if_pos h2, if_pos (by omega), Option.bind_some, if_pos (by simp; omega), ih (i + 1) k _ (by omega) (by omega) (by simp; omega)]
        simp [esc, h2]
      · rw [if_neg h2, if_pos (by omega), ih (i + 1) k _ (by omega) (by omega) (by simp; omega)]
        simp [esc, h1, h2]
theorem quote_same (s : ByteArray) : ∀ (k : Nat) (out : List Int) (i : Int), impl_Quote.l0 k s out (s.size : Int) i = spec_Quote.l0 k s out i
  | 0, _, _ => rfl
  | k + 1, out, i => by
    simp only [impl_Quote.l0, spec_Quote.l0, quote_same s k]
    by_cases h : i < (s.size : Int)
    · simp only [if_pos h]
    · simp only [if_neg h]
theorem spec_quote (s : ByteArray) (hs : s.size ≤ 1048576) (k : Nat) (hk : s.size < k) : spec_Quote.f k s = some (quote s) := by
  unfold spec_Quote.f quote
  rw [spec_textOk s (by omega) k hk, Option.bind_some]
  by_cases h : textOk s = true
  · have e := quote_loop s hs s.size 0 k [34] (by omega) hk (by simp; omega)
    rw [if_pos h, if_pos h]
    exact e
  · rw [if_neg h, if_neg h]
theorem impl_quote (s : ByteArray) (hs : s.size ≤ 1048576) (k : Nat) (hk : s.size < k) : impl_Quote.f k s = some (quote s) := by
  rw [← spec_quote s hs k hk]
  unfold spec_Quote.f impl_Quote.f
  rw [impl_textOk s (by omega) k hk, spec_textOk s (by omega) k hk, quote_same]
end Go.Proofs.Ytnbnpgjgibcmpaa.M
