-- Made by drive.py (a program of this session) over the kit's print; not written line by line by a hand.
/- The row of the law FnExactTreeSame: for every input the law's call answers true and its arguments read as they did. No condition. -/
import Derived.Test.YtnbnpgjgibcmpaaRows
import Derived.Test.YtnbnpgjgibcmpaaFacts
import Derived.Test.YtnbnpgjgibcmpaaP_laws_FnExactTreeSame
import Derived.Test.YtnbnpgjgibcmpaaPureFnExactTreeSame
import Derived.Test.YtnbnpgjgibcmpaaO
import Derived.WalkKit
import Derived.ProofKit
import Derived.OpenShut
import Derived.ShutString
import Derived.ChangeOld
import Derived.Below
import Derived.SizedLaws
namespace Go.Proofs.Ytnbnpgjgibcmpaa.fnExactTreeSame
open Go.ChangeShapes Go.WideShapes Go.ChangeAt Go.RowKit Go.Proofs.Ytnbnpgjgibcmpaa Go.Proofs.Ytnbnpgjgibcmpaa.P Go.Proofs.YtnbnpgjgibcmpaaW.PrintWords
open Go.ChangeMaps (open_string shut_string)
set_option linter.unusedVariables false
theorem own : ownKnob Try.prog.godebug = none := by kernel_rfl
theorem laidOut : laidOutB Try.prog = true := Facts.f_laid
set_option maxRecDepth 100000 in
theorem lifted (os : Os) (started : os.Started) (H : Type) (enc : TypeId × Value → H) :
    ReturnsInHanded {} Try.checked os 6 .any (Rows.fnExactTreeSameSpec.pre6 enc Try.prog Try.f6 Rows.fnExactTreeSameRow.domain false) (Rows.fnExactTreeSameSpec.post enc Try.prog Try.f6 false true false false) := by
  refine returnsInHanded_of_change_sized (C := Try.checked) own started (by kernel_rfl) Try.func6
    (ChangeSpec.witness6 (enc := enc) (C := Try.checked) false ⟨#[], #[(.agg #[(.int .i64 0), (.int .i64 0), (.string ⟨#[]⟩), (.slice none 0 0), (.slice none 0 0)]), (.agg #[(.int .i64 0), (.int .i64 0), (.string ⟨#[]⟩), (.slice none 0 0), (.slice none 0 0)])], []⟩ 8 (by kernel_rfl) (by kernel_rfl) (by kernel_rfl) (by kernel_rfl)) ?_
  intro W base args ds gs before hval0 hW hcnd hsz0 _
  have hsz : (DataW.weightsEach Try.prog (Try.f6.params.toList ++ Rows.fnExactTreeSameSpec.plain.varTypes Try.prog) (ds ++ gs)).all (· ≤ reachBytes) = true := hsz0
  have hval : ∀ (j : Nat) t v, Try.f6.params[j]? = some t → args[j]? = some v → Value.okWide Try.prog W .any base t v := hval0
  have hW' := hW
  obtain ⟨p, q, hA0, hV, rfl, hfz, hnd⟩ := hW
  have hA : DataW.TrodAll enc Try.prog W 0 (fun _ => true) true Try.f6.params.toList args.toList ds p := hA0
  rw [Try.params6] at hA hval hsz
  obtain ⟨v0, vs0, d0, ds0, p0, q0, hargs, rfl, rfl, h0, r0⟩ := trodAll_cons hA
  obtain ⟨v1, vs1, d1, ds1, p1, q1, rfl, rfl, rfl, h1, r1⟩ := trodAll_cons r0
  obtain ⟨rfl, rfl, rfl⟩ := trodAll_nil r1
  obtain rfl : args = #[v0, v1] := by cases args; simp_all
  obtain ⟨rfl, rfl⟩ := trodVars_none hV
  have k0 := h0
  have lt0 : ∀ x ∈ p0, x.block < W.heap.size := by obtain ⟨m, hm⟩ := k0; exact DataW.trod_lt m _ _ _ hm
  obtain ⟨fu0, hf0⟩ := k0
  obtain ⟨cs0, rfl, _⟩ := okWide_struct Try.underlying36 (hval 0 36 v0 rfl rfl)
  obtain ⟨x0, kk0, gd0⟩ := O.opens36 _ _ _ _ _ _ _ _ (show DataW.trod enc Try.prog W 0 (fun _ => true) true fu0 36 cs0.toList = some _ from hf0)
  obtain ⟨A0_3, c0_3, A0_4, c0_4, eq0, l0_3, g0_3, l0_4, g0_4⟩ := k36_open kk0
  obtain rfl := O.arr_of eq0
  have k1 := h1
  have lt1 : ∀ x ∈ p1, x.block < W.heap.size := by obtain ⟨m, hm⟩ := k1; exact DataW.trod_lt m _ _ _ hm
  obtain ⟨fu1, hf1⟩ := k1
  obtain ⟨cs1, rfl, _⟩ := okWide_struct Try.underlying36 (hval 1 36 v1 rfl rfl)
  obtain ⟨x1, kk1, gd1⟩ := O.opens36 _ _ _ _ _ _ _ _ (show DataW.trod enc Try.prog W 0 (fun _ => true) true fu1 36 cs1.toList = some _ from hf1)
  obtain ⟨A1_3, c1_3, A1_4, c1_4, eq1, l1_3, g1_3, l1_4, g1_4⟩ := k36_open kk1
  obtain rfl := O.arr_of eq1
  clear hA0 hval0 hsz0 hsz
  obtain ⟨k, hP⟩ := Pure.FnExactTreeSame x0 x1 gd0 gd1
  refine (laws_FnExactTreeSame.calls k x0.f0 x0.f1 x0.f2 _ _ x0.f3 _ _ x0.f4 x1.f0 x1.f1 x1.f2 _ _ x1.f3 _ _ x1.f4 true W g0_3 l0_3 g0_4 l0_4 g1_3 l1_3 g1_4 l1_4 hP).mono fun e W' ⟨he, bel0⟩ => ?_
  have bel : Below W.heap.size W W' := bel0
  subst he
  exact ⟨_, rfl, _, _, _, [], _, [], hW', trodAll_mk1 (shut_bool Try.underlying4 _), (trodAll_cons_mk (Below.trod laidOut (by kernel_rfl) (of_decide_eq_true (by kernel_rfl)) h0 bel lt0) (trodAll_cons_mk (Below.trod laidOut (by kernel_rfl) (of_decide_eq_true (by kernel_rfl)) h1 bel lt1) trodAll_mk0)), rfl, bel.frame _, fun h => by cases h⟩
theorem closed_ : joinedFacts Try.prog 6 Try.f6 Rows.fnExactTreeSameSpec Rows.fnExactTreeSameRow = true := by
  unfold joinedFacts
  simp only [Bool.and_eq_true]
  repeat' refine And.intro ?_ ?_
  all_goals first
    | (with_reducible exact Facts.f_laid) | (with_reducible exact Facts.f_maps) | (with_reducible exact Facts.f_knobs) | (with_reducible exact Facts.f_heard) | (with_reducible exact Facts.f_may)
    | (rw [Facts.f_lifts]; rfl) | (rw [Facts.f_make]; rfl)
    | (as_aux_lemma => kernel_rfl)
theorem over : Rows.fnExactTreeSameRow.holds Try.pinned (OpenSpec.ofChange Rows.fnExactTreeSameSpec) :=
  OpenClaim.holds_of_wide 6 Try.f6 rfl rfl rfl rfl rfl rfl rfl ⟨rfl, rfl, rfl, rfl, rfl⟩ rfl rfl rfl rfl rfl (by as_aux_lemma => kernel_rfl) Try.func6 closed_
    (of_decide_eq_true (by as_aux_lemma => kernel_rfl)) (by unfold Func.isWrapper; first | (rw [if_pos (by decide +kernel)]; kernel_rfl) | (rw [if_neg (by decide +kernel)]; exact ⟨rfl, rfl⟩))
    (fun os started H enc _ => lifted os started H enc)
theorem proved : Rows.FnExactTreeSameSaid := over
#print axioms proved
end Go.Proofs.Ytnbnpgjgibcmpaa.fnExactTreeSame
namespace Go.Proofs.Ytnbnpgjgibcmpaa
/-- The row, under a short name, for the claim. -/
theorem fnExactTreeSame_holds : Rows.FnExactTreeSameSaid := fnExactTreeSame.proved
end Go.Proofs.Ytnbnpgjgibcmpaa
