/- Plain lemmas for the pure statements: numbers in 64 bits, rounds, loops that look at one byte behind the other, digits. -/
import Derived.Test.YtdlhidjphaaklaaWords
import Derived.Lib.Strings
import Derived.Lib.Bytealg
import Derived.Laws.Runes
namespace Go.Proofs.Ytdlhidjphaaklaa.M
open Go.RowKit Go.Proofs.YtdlhidjphaaklaaW.PrintWords

theorem w64 {i : Int} (h0 : -9223372036854775808 ≤ i) (h1 : i ≤ 9223372036854775807) : wrap64 i = i := by unfold wrap64; omega
theorem w32 {i : Int} (h0 : -2147483648 ≤ i) (h1 : i ≤ 2147483647) : wrap32 i = i := by unfold wrap32; omega
theorem wsucc {i : Nat} (h : i ≤ 140737488351232) : wrap64 ((i : Int) + 1) = ((i + 1 : Nat) : Int) := by
  rw [w64 (by omega) (by omega)]
  omega

theorem int_wf {n : Int} (h : (Lit.int .i64 n).wf = true) : -9223372036854775808 ≤ n ∧ n ≤ 9223372036854775807 := by
  have h2 : (decide (IntKind.i64.min ≤ n) && decide (n ≤ IntKind.i64.max)) = true := h
  simp only [Bool.and_eq_true, decide_eq_true_eq] at h2
  exact h2
/-- A loop over the places 0 .. n that goes on where P holds, ends with false where not, and with e behind the last place. -/
theorem scan {g : Nat → Int → Option Bool} {n : Nat} {P : Nat → Bool} {e : Bool} (hend : ∀ k, g (k + 1) (n : Int) = some e)
    (hstep : ∀ k (i : Nat), i < n → g (k + 1) (i : Int) = if P i = true then g k ((i + 1 : Nat) : Int) else some false) :
    ∀ (d i k : Nat), i + d = n → d < k → g k (i : Int) = some ((List.range' i d).all P && e) := by
  intro d
  induction d with
  | zero =>
    intro i k hi hk
    obtain ⟨k, rfl⟩ : ∃ m, k = m + 1 := ⟨k - 1, by omega⟩
    obtain rfl : i = n := by omega
    simp [hend]
  | succ d ih =>
    intro i k hi hk
    obtain ⟨k, rfl⟩ : ∃ m, k = m + 1 := ⟨k - 1, by omega⟩
    rw [hstep k i (by omega), List.range'_succ, List.all_cons]
    by_cases h : P i = true
    · rw [if_pos h, ih (i + 1) k (by omega) (by omega), h, Bool.true_and]
    · rw [if_neg h]
      have : P i = false := by simpa using h
      rw [this, Bool.false_and, Bool.false_and]
theorem scan0 {g : Nat → Int → Option Bool} {n : Nat} {P : Nat → Bool} {e : Bool} (hend : ∀ k, g (k + 1) (n : Int) = some e)
    (hstep : ∀ k (i : Nat), i < n → g (k + 1) (i : Int) = if P i = true then g k ((i + 1 : Nat) : Int) else some false) (k : Nat) (hk : n < k) :
    g k 0 = some ((List.range' 0 n).all P && e) := scan hend hstep n 0 k (by omega) hk

/-! Which bytes -/
def textB (s : ByteArray) (i : Nat) : Bool := decide (32 ≤ bt s i) && decide (bt s i ≤ 126)
def textOk (s : ByteArray) : Bool := (List.range' 0 s.size).all (textB s) && decide ((s.size : Int) ≤ 400)
def lowB (c : Int) : Bool := decide (97 ≤ c) && decide (c ≤ 122)
def upB (c : Int) : Bool := decide (65 ≤ c) && decide (c ≤ 90)
def digB (c : Int) : Bool := decide (48 ≤ c) && decide (c ≤ 57)
def nameB (s : ByteArray) (i : Nat) : Bool := lowB (bt s i) || (decide (i ≠ 0) && (digB (bt s i) || decide (bt s i = 45)))
def inB (n a b : Int) : Bool := decide (a ≤ n) && decide (n ≤ b)
def nameOk (s : ByteArray) : Bool := (List.range' 0 s.size).all (nameB s) && inB s.size 1 20
def plainB (s : ByteArray) (i : Nat) : Bool := lowB (bt s i) || upB (bt s i) || (decide (i ≠ 0) && (digB (bt s i) || decide (bt s i = 95) || decide (bt s i = 46) || decide (bt s i = 47) || decide (bt s i = 45)))
def plainEnd (s : ByteArray) : Bool := inB s.size 1 60 && (decide (s.toList ≠ ([110, 117, 108, 108] : List UInt8)) && decide (s.toList ≠ ([116, 114, 117, 101] : List UInt8)) && decide (s.toList ≠ ([102, 97, 108, 115, 101] : List UInt8)))
def plainOk (s : ByteArray) : Bool := (List.range' 0 s.size).all (plainB s) && plainEnd s

/-! Digits -/
def natDigs (n : Nat) : List UInt8 := if n < 10 then [UInt8.ofNat (48 + n)] else natDigs (n / 10) ++ [UInt8.ofNat (48 + n % 10)]
termination_by n
decreasing_by omega
def digits (n : Int) : ByteArray := ⟨((if n < 0 then [45] else []) ++ natDigs n.natAbs).toArray⟩
theorem natDigs_lt {n : Nat} (h : n < 10) : natDigs n = [UInt8.ofNat (48 + n)] := by rw [natDigs, if_pos h]
theorem natDigs_ge {n : Nat} (h : ¬ n < 10) : natDigs n = natDigs (n / 10) ++ [UInt8.ofNat (48 + n % 10)] := by rw [natDigs, if_neg h]
theorem natDigs_len : ∀ (d n : Nat), 0 < d → n < 10 ^ d → (natDigs n).length ≤ d
  | 0, _, h, _ => by omega
  | d + 1, n, _, hn => by
    by_cases h : n < 10
    · rw [natDigs_lt h]; simp
    · rw [natDigs_ge h, List.length_append, List.length_singleton]
      have hd : 0 < d := by
        rcases Nat.eq_zero_or_pos d with rfl | hd
        · exact absurd hn (by simpa using h)
        · exact hd
      have := natDigs_len d (n / 10) hd (by rw [Nat.div_lt_iff_lt_mul (by omega)]; rw [Nat.pow_succ] at hn; exact hn)
      omega
theorem natDigs_len20 {n : Nat} (h : n ≤ 9223372036854775808) : (natDigs n).length ≤ 19 := natDigs_len 19 n (by omega) (by omega)
theorem natDigs_ne (n : Nat) : natDigs n ≠ [] := by
  rw [natDigs]
  split <;> simp
end Go.Proofs.Ytdlhidjphaaklaa.M
