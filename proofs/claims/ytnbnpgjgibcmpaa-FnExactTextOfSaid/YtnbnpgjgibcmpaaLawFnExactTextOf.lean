-- Made by drive.py (a program of this session) over the kit's print; not written line by line by a hand.
/- The row of the law FnExactTextOf: for every input the law's call answers true and its arguments read as they did. No condition. -/
import Derived.Test.YtnbnpgjgibcmpaaRows
import Derived.Test.YtnbnpgjgibcmpaaFacts
import Derived.Test.YtnbnpgjgibcmpaaP_laws_FnExactTextOf
import Derived.Test.YtnbnpgjgibcmpaaPureFnExactTextOf
import Derived.WalkKit
import Derived.ProofKit
import Derived.OpenShut
import Derived.ShutString
import Derived.ChangeOld
import Derived.Below
import Derived.SizedLaws
namespace Go.Proofs.Ytnbnpgjgibcmpaa.fnExactTextOf
open Go.ChangeShapes Go.WideShapes Go.ChangeAt Go.RowKit Go.Proofs.Ytnbnpgjgibcmpaa Go.Proofs.Ytnbnpgjgibcmpaa.P Go.Proofs.YtnbnpgjgibcmpaaW.PrintWords
open Go.ChangeMaps (open_string shut_string)
set_option linter.unusedVariables false
theorem own : ownKnob Try.prog.godebug = none := by kernel_rfl
set_option maxRecDepth 100000 in
theorem lifted (os : Os) (started : os.Started) (H : Type) (enc : TypeId × Value → H) :
    ReturnsInHanded {} Try.checked os 4 .any (Rows.fnExactTextOfSpec.pre6 enc Try.prog Try.f4 Rows.fnExactTextOfRow.domain false) (Rows.fnExactTextOfSpec.post enc Try.prog Try.f4 false true false false) := by
  refine returnsInHanded_of_change_sized (C := Try.checked) own started (by kernel_rfl) Try.func4
    (ChangeSpec.witness6 (enc := enc) (C := Try.checked) false ⟨#[], #[(.string ⟨#[]⟩)], []⟩ 8 (by kernel_rfl) (by kernel_rfl) (by kernel_rfl) (by kernel_rfl)) ?_
  intro W base args ds gs before hval0 hW hcnd hsz0 _
  have hsz : (DataW.weightsEach Try.prog (Try.f4.params.toList ++ Rows.fnExactTextOfSpec.plain.varTypes Try.prog) (ds ++ gs)).all (· ≤ reachBytes) = true := hsz0
  have hval : ∀ (j : Nat) t v, Try.f4.params[j]? = some t → args[j]? = some v → Value.okWide Try.prog W .any base t v := hval0
  have hW' := hW
  obtain ⟨p, q, hA0, hV, rfl, hfz, hnd⟩ := hW
  have hA : DataW.TrodAll enc Try.prog W 0 (fun _ => true) true Try.f4.params.toList args.toList ds p := hA0
  rw [Try.params4] at hA hval hsz
  obtain ⟨v0, vs0, d0, ds0, p0, q0, hargs, rfl, rfl, h0, r0⟩ := trodAll_cons hA
  obtain ⟨rfl, rfl, rfl⟩ := trodAll_nil r0
  obtain rfl : args = #[v0] := by cases args; simp_all
  obtain ⟨rfl, rfl⟩ := trodVars_none hV
  obtain ⟨a0, rfl, rfl, rfl, y0⟩ := open_string Try.underlying9 (hval 0 9 v0 rfl rfl) h0
  have w0 : a0.size ≤ 140737488351232 := by
    have z := sized_string hsz (j := 0) (t := 9) rfl rfl
    rw [Array.length_toList] at z
    exact z
  clear hA0 hval0 hsz0 hsz
  obtain ⟨k, hP⟩ := Pure.FnExactTextOf a0 w0
  refine (laws_FnExactTextOf.calls k a0 true W  hP).mono fun e W' ⟨he, bel0⟩ => ?_
  have bel : Below W.heap.size W W' := bel0
  subst he
  exact ⟨_, rfl, _, _, _, [], _, [], hW', trodAll_mk1 (shut_bool Try.underlying4 _), (trodAll_cons_mk (shut_string Try.underlying9 y0) trodAll_mk0), rfl, bel.frame _, fun h => by cases h⟩
theorem closed_ : joinedFacts Try.prog 4 Try.f4 Rows.fnExactTextOfSpec Rows.fnExactTextOfRow = true := by
  unfold joinedFacts
  simp only [Bool.and_eq_true]
  repeat' refine And.intro ?_ ?_
  all_goals first
    | (with_reducible exact Facts.f_laid) | (with_reducible exact Facts.f_maps) | (with_reducible exact Facts.f_knobs) | (with_reducible exact Facts.f_heard) | (with_reducible exact Facts.f_may)
    | (rw [Facts.f_lifts]; rfl) | (rw [Facts.f_make]; rfl)
    | (as_aux_lemma => kernel_rfl)
theorem over : Rows.fnExactTextOfRow.holds Try.pinned (OpenSpec.ofChange Rows.fnExactTextOfSpec) :=
  OpenClaim.holds_of_wide 4 Try.f4 rfl rfl rfl rfl rfl rfl rfl ⟨rfl, rfl, rfl, rfl, rfl⟩ rfl rfl rfl rfl rfl (by as_aux_lemma => kernel_rfl) Try.func4 closed_
    (of_decide_eq_true (by as_aux_lemma => kernel_rfl)) (by unfold Func.isWrapper; first | (rw [if_pos (by decide +kernel)]; kernel_rfl) | (rw [if_neg (by decide +kernel)]; exact ⟨rfl, rfl⟩))
    (fun os started H enc _ => lifted os started H enc)
theorem proved : Rows.FnExactTextOfSaid := over
#print axioms proved
end Go.Proofs.Ytnbnpgjgibcmpaa.fnExactTextOf
namespace Go.Proofs.Ytnbnpgjgibcmpaa
/-- The row, under a short name, for the claim. -/
theorem fnExactTextOf_holds : Rows.FnExactTextOfSaid := fnExactTextOf.proved
end Go.Proofs.Ytnbnpgjgibcmpaa
