/- What MetricTree makes, and the texts in it. (Printed by wip/mklit.py.) -/
import Derived.Test.YtnbnpgjgibcmpaaAid
import Derived.Test.YtnbnpgjgibcmpaaAmText
import Derived.Test.YtnbnpgjgibcmpaaCopy
import Derived.Test.YtnbnpgjgibcmpaaDelete
import Derived.Test.YtnbnpgjgibcmpaaGet
import Derived.Test.YtnbnpgjgibcmpaaInsert
import Derived.Test.YtnbnpgjgibcmpaaLaw
import Derived.Test.YtnbnpgjgibcmpaaListOf
import Derived.Test.YtnbnpgjgibcmpaaLists
import Derived.Test.YtnbnpgjgibcmpaaLits
import Derived.Test.YtnbnpgjgibcmpaaMake
import Derived.Test.YtnbnpgjgibcmpaaMapOf
import Derived.Test.YtnbnpgjgibcmpaaMark
import Derived.Test.YtnbnpgjgibcmpaaOwn
import Derived.Test.YtnbnpgjgibcmpaaP_laws_szMetric
import Derived.Test.YtnbnpgjgibcmpaaP_laws_toMetric
import Derived.Test.YtnbnpgjgibcmpaaSet
import Derived.Test.YtnbnpgjgibcmpaaSetLaw
import Derived.Test.YtnbnpgjgibcmpaaSetS
import Derived.Test.YtnbnpgjgibcmpaaSetW
import Derived.Test.YtnbnpgjgibcmpaaUnset
import Derived.Test.YtnbnpgjgibcmpaaUnsetW
namespace Go.Proofs.Ytnbnpgjgibcmpaa.H
open Go.RowKit Go.Proofs.Ytnbnpgjgibcmpaa.P Go.Proofs.YtnbnpgjgibcmpaaW.PrintWords Go.Proofs.Ytnbnpgjgibcmpaa.M
set_option linter.unusedVariables false
def kindText (n : Int) : ByteArray := if n = 1 then ⟨#[115, 104, 97, 114, 101]⟩ else if n = 2 then ⟨#[109, 101, 97, 110]⟩ else if n = 3 then ⟨#[119, 104, 111, 108, 101]⟩ else ⟨#[110, 111, 110, 101]⟩
theorem impl_kindText (n : Int) : impl_kindWord.f n = some (kindText n) := by
  unfold impl_kindWord.f kindText
  split <;> (try rfl)
  split <;> (try rfl)
  split <;> rfl
theorem spec_kindText (n : Int) : spec_l7Kind.f n = some (kindText n) := by
  unfold spec_l7Kind.f kindText spec_l1In.f
  by_cases h : 1 ≤ n ∧ n ≤ 3
  · obtain ⟨h1, h2⟩ := h
    rcases (by omega : n = 1 ∨ n = 2 ∨ n = 3) with rfl | rfl | rfl <;> simp [rdOf]
  · have e1 : n ≠ 1 := by omega
    have e2 : n ≠ 2 := by omega
    have e3 : n ≠ 3 := by omega
    by_cases h1 : 1 ≤ n
    · have h2 : ¬ n ≤ 3 := fun e => h ⟨h1, e⟩
      simp [e1, e2, e3, h1, h2]
    · simp [e1, e2, e3, h1]
theorem kindI_calls (n : Int) (w : World) : Calls Try.prog 109 #[.int .i64 n] w fun e w' => e = .returned (.string (kindText n)) ∧ Below w.heap.size w w' :=
  (impl_kindWord.calls n _ w (impl_kindText n)).mono fun e w' ⟨h1, h2⟩ => ⟨h1, h2.below⟩
theorem kindS_calls (n : Int) (w : World) : Calls Try.prog 107 #[.int .i64 n] w fun e w' => e = .returned (.string (kindText n)) ∧ Below w.heap.size w w' :=
  (spec_l7Kind.calls n _ w (spec_kindText n)).mono fun e w' ⟨h1, h2⟩ => ⟨h1, h2⟩
theorem amountI_calls (n : Int) (w : World) : Calls Try.prog 110 #[.int .i64 n] w fun e w' => e = .returned (.string (amountText n)) ∧ Below w.heap.size w w' :=
  (impl_AmountText.calls (BIG + 1) n _ w (impl_amountText n _ (Nat.lt_succ_self _))).mono fun e w' ⟨h1, h2⟩ => ⟨h1, h2.below⟩
theorem amountS_calls (n : Int) (w : World) : Calls Try.prog 108 #[.int .i64 n] w fun e w' => e = .returned (.string (amountText n)) ∧ Below w.heap.size w w' :=
  (spec_AmountText.calls (BIG + 1) n _ w (spec_amountText n _ (Nat.lt_succ_self _))).mono fun e w' ⟨h1, h2⟩ => ⟨h1, h2⟩
noncomputable def metricV (a0 : ByteArray) (a1 a2 : Int) : S25 := mapV [(⟨#[110, 97, 109, 101]⟩ : ByteArray), (⟨#[107, 105, 110, 100]⟩ : ByteArray), (⟨#[103, 111, 97, 108]⟩ : ByteArray)] ([(3, 0, a0), (3, 0, kindText a1), (3, 0, amountText a2)].map leafN) (List.length (α := ByteArray) [(⟨#[110, 97, 109, 101]⟩ : ByteArray), (⟨#[107, 105, 110, 100]⟩ : ByteArray), (⟨#[103, 111, 97, 108]⟩ : ByteArray)])
theorem cnt_metricV (a0 : ByteArray) (a1 a2 : Int) : cntTop (metricV a0 a1 a2) ≤ 16 := by
  have h := cnt_mapV [(⟨#[110, 97, 109, 101]⟩ : ByteArray), (⟨#[107, 105, 110, 100]⟩ : ByteArray), (⟨#[103, 111, 97, 108]⟩ : ByteArray)] [(3, 0, a0), (3, 0, kindText a1), (3, 0, amountText a2)] (List.length (α := ByteArray) [(⟨#[110, 97, 109, 101]⟩ : ByteArray), (⟨#[107, 105, 110, 100]⟩ : ByteArray), (⟨#[103, 111, 97, 108]⟩ : ByteArray)]) (Nat.le_of_eq rfl)
  unfold metricV
  have : (List.length (α := ByteArray) [(⟨#[110, 97, 109, 101]⟩ : ByteArray), (⟨#[107, 105, 110, 100]⟩ : ByteArray), (⟨#[103, 111, 97, 108]⟩ : ByteArray)]) ≤ 4 := by decide
  omega
end Go.Proofs.Ytnbnpgjgibcmpaa.H
