/- What PaceTree makes, and the texts in it. (Printed by wip/mklit.py.) -/
import Derived.Test.YtnbnpgjgibcmpaaAid
import Derived.Test.YtnbnpgjgibcmpaaAmText
import Derived.Test.YtnbnpgjgibcmpaaCopy
import Derived.Test.YtnbnpgjgibcmpaaDelete
import Derived.Test.YtnbnpgjgibcmpaaGet
import Derived.Test.YtnbnpgjgibcmpaaInsert
import Derived.Test.YtnbnpgjgibcmpaaLaw
import Derived.Test.YtnbnpgjgibcmpaaListOf
import Derived.Test.YtnbnpgjgibcmpaaLists
import Derived.Test.YtnbnpgjgibcmpaaLits
import Derived.Test.YtnbnpgjgibcmpaaMake
import Derived.Test.YtnbnpgjgibcmpaaMapOf
import Derived.Test.YtnbnpgjgibcmpaaMark
import Derived.Test.YtnbnpgjgibcmpaaOwn
import Derived.Test.YtnbnpgjgibcmpaaP_laws_toPace
import Derived.Test.YtnbnpgjgibcmpaaP_spec_SpanText
import Derived.Test.YtnbnpgjgibcmpaaSet
import Derived.Test.YtnbnpgjgibcmpaaSetLaw
import Derived.Test.YtnbnpgjgibcmpaaSetS
import Derived.Test.YtnbnpgjgibcmpaaSetW
import Derived.Test.YtnbnpgjgibcmpaaUnset
import Derived.Test.YtnbnpgjgibcmpaaUnsetW
namespace Go.Proofs.Ytnbnpgjgibcmpaa.H
open Go.RowKit Go.Proofs.Ytnbnpgjgibcmpaa.P Go.Proofs.YtnbnpgjgibcmpaaW.PrintWords Go.Proofs.Ytnbnpgjgibcmpaa.M
set_option linter.unusedVariables false
theorem spanI_calls (n : Int) (w : World) : Calls Try.prog 106 #[.int .i64 n] w fun e w' => e = .returned (.string (spanText n)) ∧ Below w.heap.size w w' :=
  (impl_SpanText.calls (BIG + 1) n _ w (impl_spanText n _ (Nat.lt_succ_self _))).mono fun e w' ⟨h1, h2⟩ => ⟨h1, h2.below⟩
theorem spanS_calls (n : Int) (w : World) : Calls Try.prog 104 #[.int .i64 n] w fun e w' => e = .returned (.string (spanText n)) ∧ Below w.heap.size w w' :=
  (spec_SpanText.calls (BIG + 1) n _ w (spec_spanText n _ (Nat.lt_succ_self _))).mono fun e w' ⟨h1, h2⟩ => ⟨h1, h2⟩
noncomputable def paceV (a0 a1 a2 a3 : Int) : S25 := mapV [(⟨#[100, 111, 119, 110]⟩ : ByteArray), (⟨#[117, 112]⟩ : ByteArray), (⟨#[100, 111, 119, 110, 115, 112, 97, 110]⟩ : ByteArray), (⟨#[117, 112, 115, 112, 97, 110]⟩ : ByteArray)] ([(2, a1, ⟨#[]⟩), (2, a0, ⟨#[]⟩), (3, 0, spanText a3), (3, 0, spanText a2)].map leafN) (List.length (α := ByteArray) [(⟨#[100, 111, 119, 110]⟩ : ByteArray), (⟨#[117, 112]⟩ : ByteArray), (⟨#[100, 111, 119, 110, 115, 112, 97, 110]⟩ : ByteArray), (⟨#[117, 112, 115, 112, 97, 110]⟩ : ByteArray)])
theorem cnt_paceV (a0 a1 a2 a3 : Int) : cntTop (paceV a0 a1 a2 a3) ≤ 16 := by
  have h := cnt_mapV [(⟨#[100, 111, 119, 110]⟩ : ByteArray), (⟨#[117, 112]⟩ : ByteArray), (⟨#[100, 111, 119, 110, 115, 112, 97, 110]⟩ : ByteArray), (⟨#[117, 112, 115, 112, 97, 110]⟩ : ByteArray)] [(2, a1, ⟨#[]⟩), (2, a0, ⟨#[]⟩), (3, 0, spanText a3), (3, 0, spanText a2)] (List.length (α := ByteArray) [(⟨#[100, 111, 119, 110]⟩ : ByteArray), (⟨#[117, 112]⟩ : ByteArray), (⟨#[100, 111, 119, 110, 115, 112, 97, 110]⟩ : ByteArray), (⟨#[117, 112, 115, 112, 97, 110]⟩ : ByteArray)]) (Nat.le_of_eq rfl)
  unfold paceV
  have : (List.length (α := ByteArray) [(⟨#[100, 111, 119, 110]⟩ : ByteArray), (⟨#[117, 112]⟩ : ByteArray), (⟨#[100, 111, 119, 110, 115, 112, 97, 110]⟩ : ByteArray), (⟨#[117, 112, 115, 112, 97, 110]⟩ : ByteArray)]) ≤ 4 := by decide
  omega
end Go.Proofs.Ytnbnpgjgibcmpaa.H
