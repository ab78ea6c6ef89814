-- Made by drive.py (a program of this session) over the kit's print; not written line by line by a hand.
/- The row of the law FnExactOrderOk: for every input the law's call answers true and its arguments read as they did. No condition. -/
import Derived.Test.YtjkanclhlnojhaaRows
import Derived.Test.YtjkanclhlnojhaaFacts
import Derived.Test.YtjkanclhlnojhaaP_laws_FnExactOrderOk
import Derived.Test.YtjkanclhlnojhaaPureFnExactOrderOk
import Derived.Test.YtjkanclhlnojhaaO
import Derived.WalkKit
import Derived.ProofKit
import Derived.OpenShut
import Derived.ShutString
import Derived.ChangeOld
import Derived.Below
import Derived.SizedLaws
namespace Go.Proofs.Ytjkanclhlnojhaa.fnExactOrderOk
open Go.ChangeShapes Go.WideShapes Go.ChangeAt Go.RowKit Go.Proofs.Ytjkanclhlnojhaa Go.Proofs.Ytjkanclhlnojhaa.P Go.Proofs.YtjkanclhlnojhaaW.PrintWords
open Go.ChangeMaps (open_string shut_string)
set_option linter.unusedVariables false
theorem own : ownKnob Try.prog.godebug = none := by kernel_rfl
theorem laidOut : laidOutB Try.prog = true := Facts.f_laid
set_option maxRecDepth 100000 in
theorem lifted (os : Os) (started : os.Started) (H : Type) (enc : TypeId × Value → H) :
    ReturnsInHanded {} Try.checked os 19 .any (Rows.fnExactOrderOkSpec.pre6 enc Try.prog Try.f19 Rows.fnExactOrderOkRow.domain false) (Rows.fnExactOrderOkSpec.post enc Try.prog Try.f19 false true false false) := by
  refine returnsInHanded_of_change_sized (C := Try.checked) own started (by kernel_rfl) Try.func19
    (ChangeSpec.witness6 (enc := enc) (C := Try.checked) false ⟨#[], #[(.agg #[(.string ⟨#[]⟩), (.string ⟨#[]⟩), (.int .i64 0), (.int .i64 0), (.slice none 0 0), (.int .i64 0), (.int .i64 0), (.int .i64 0), (.int .i64 0), (.slice none 0 0)])], []⟩ 8 (by kernel_rfl) (by kernel_rfl) (by kernel_rfl) (by kernel_rfl)) ?_
  intro W base args ds gs before hval0 hW hcnd hsz0 _
  have hsz : (DataW.weightsEach Try.prog (Try.f19.params.toList ++ Rows.fnExactOrderOkSpec.plain.varTypes Try.prog) (ds ++ gs)).all (· ≤ reachBytes) = true := hsz0
  have hval : ∀ (j : Nat) t v, Try.f19.params[j]? = some t → args[j]? = some v → Value.okWide Try.prog W .any base t v := hval0
  have hW' := hW
  obtain ⟨p, q, hA0, hV, rfl, hfz, hnd⟩ := hW
  have hA : DataW.TrodAll enc Try.prog W 0 (fun _ => true) true Try.f19.params.toList args.toList ds p := hA0
  rw [Try.params19] at hA hval hsz
  obtain ⟨v0, vs0, d0, ds0, p0, q0, hargs, rfl, rfl, h0, r0⟩ := trodAll_cons hA
  obtain ⟨rfl, rfl, rfl⟩ := trodAll_nil r0
  obtain rfl : args = #[v0] := by cases args; simp_all
  obtain ⟨rfl, rfl⟩ := trodVars_none hV
  have k0 := h0
  have lt0 : ∀ x ∈ p0, x.block < W.heap.size := by obtain ⟨m, hm⟩ := k0; exact DataW.trod_lt m _ _ _ hm
  obtain ⟨fu0, hf0⟩ := k0
  obtain ⟨cs0, rfl, _⟩ := okWide_struct Try.underlying60 (hval 0 60 v0 rfl rfl)
  obtain ⟨x0, kk0, gd0⟩ := O.opens60 _ _ _ _ _ _ _ _ (show DataW.trod enc Try.prog W 0 (fun _ => true) true fu0 60 cs0.toList = some _ from hf0)
  obtain ⟨A0_4, c0_4, A0_9, c0_9, eq0, l0_4, g0_4, l0_9, g0_9⟩ := k60_open kk0
  obtain rfl := O.arr_of eq0
  clear hA0 hval0 hsz0 hsz
  obtain ⟨k, hP⟩ := Pure.FnExactOrderOk x0 gd0
  refine (laws_FnExactOrderOk.calls k x0.f0 x0.f1 x0.f2 x0.f3 _ _ x0.f4 x0.f5.f0 x0.f5.f1 x0.f5.f2 x0.f5.f3 _ _ x0.f6 true W g0_4 l0_4 g0_9 l0_9 hP).mono fun e W' ⟨he, bel0⟩ => ?_
  have bel : Below W.heap.size W W' := bel0
  subst he
  exact ⟨_, rfl, _, _, _, [], _, [], hW', trodAll_mk1 (shut_bool Try.underlying4 _), (trodAll_cons_mk (Below.trod laidOut (by kernel_rfl) (of_decide_eq_true (by kernel_rfl)) h0 bel lt0) trodAll_mk0), rfl, bel.frame _, fun h => by cases h⟩
theorem closed_ : joinedFacts Try.prog 19 Try.f19 Rows.fnExactOrderOkSpec Rows.fnExactOrderOkRow = true := by
  unfold joinedFacts
  simp only [Bool.and_eq_true]
  repeat' refine And.intro ?_ ?_
  all_goals first
    | (with_reducible exact Facts.f_laid) | (with_reducible exact Facts.f_maps) | (with_reducible exact Facts.f_knobs) | (with_reducible exact Facts.f_heard) | (with_reducible exact Facts.f_may)
    | (rw [Facts.f_lifts]; rfl) | (rw [Facts.f_make]; rfl)
    | (as_aux_lemma => kernel_rfl)
theorem over : Rows.fnExactOrderOkRow.holds Try.pinned (OpenSpec.ofChange Rows.fnExactOrderOkSpec) :=
  OpenClaim.holds_of_wide 19 Try.f19 rfl rfl rfl rfl rfl rfl rfl ⟨rfl, rfl, rfl, rfl, rfl⟩ rfl rfl rfl rfl rfl (by as_aux_lemma => kernel_rfl) Try.func19 closed_
    (of_decide_eq_true (by as_aux_lemma => kernel_rfl)) (by unfold Func.isWrapper; first | (rw [if_pos (by decide +kernel)]; kernel_rfl) | (rw [if_neg (by decide +kernel)]; exact ⟨rfl, rfl⟩))
    (fun os started H enc _ => lifted os started H enc)
theorem proved : Rows.FnExactOrderOkSaid := over
#print axioms proved
end Go.Proofs.Ytjkanclhlnojhaa.fnExactOrderOk
namespace Go.Proofs.Ytjkanclhlnojhaa
/-- The row, under a short name, for the claim. -/
theorem fnExactOrderOk_holds : Rows.FnExactOrderOkSaid := fnExactOrderOk.proved
end Go.Proofs.Ytjkanclhlnojhaa
