-- Made by drive.py (a program of this session) over the kit's print; not written line by line by a hand.
/- The row of the law FnExactMidTree: for every input the law's call answers true and its arguments read as they did. No condition. -/
import Derived.Test.YtdlhidjphaaklaaGreatXMF
import Derived.Test.YtdlhidjphaaklaaGreatRows
import Derived.WalkKit
import Derived.ProofKit
import Derived.OpenShut
import Derived.ShutString
import Derived.ChangeOld
import Derived.Below
import Derived.SizedLaws
namespace Go.Proofs.YtdlhidjphaaklaaGreat.fnExactMidTree
open Go.ChangeShapes Go.WideShapes Go.ChangeAt Go.RowKit Go.Proofs.YtdlhidjphaaklaaGreat Go.Proofs.YtdlhidjphaaklaaGreat.P Go.Proofs.YtdlhidjphaaklaaGreatW.PrintWords
open Go.ChangeMaps (open_string shut_string)
set_option linter.unusedVariables false
theorem own : ownKnob Tryz.prog.godebug = none := by kernel_rfl
theorem laidOut : laidOutB Tryz.prog = true := Facts.f_laid
set_option maxRecDepth 100000 in
theorem lifted (os : Os) (started : os.Started) (H : Type) (enc : TypeId × Value → H) :
    ReturnsInHanded {} Tryz.checked os 5 .any (Rows.fnExactMidTreeSpec.pre6 enc Tryz.prog Tryz.f5 Rows.fnExactMidTreeRow.domain false) (Rows.fnExactMidTreeSpec.post enc Tryz.prog Tryz.f5 false true false false) := by
  refine returnsInHanded_of_change_sized (C := Tryz.checked) own started (by kernel_rfl) Tryz.func5
    (ChangeSpec.witness6 (enc := enc) (C := Tryz.checked) false ⟨#[], #[(.agg #[(.string ⟨#[]⟩), (.string ⟨#[]⟩), (.int .i64 0), (.int .i64 0), (.slice none 0 0), (.int .i64 0), (.int .i64 0), (.int .i64 0), (.int .i64 0), (.slice none 0 0)])], []⟩ 8 (by kernel_rfl) (by kernel_rfl) (by kernel_rfl) (by kernel_rfl)) ?_
  intro W base args ds gs before hval0 hW hcnd hsz0 _
  have hsz : (DataW.weightsEach Tryz.prog (Tryz.f5.params.toList ++ Rows.fnExactMidTreeSpec.plain.varTypes Tryz.prog) (ds ++ gs)).all (· ≤ reachBytes) = true := hsz0
  have hval : ∀ (j : Nat) t v, Tryz.f5.params[j]? = some t → args[j]? = some v → Value.okWide Tryz.prog W .any base t v := hval0
  have hW' := hW
  obtain ⟨p, q, hA0, hV, rfl, hfz, hnd⟩ := hW
  have hA : DataW.TrodAll enc Tryz.prog W 0 (fun _ => true) true Tryz.f5.params.toList args.toList ds p := hA0
  rw [Tryz.params5] at hA hval hsz
  obtain ⟨v0, vs0, d0, ds0, p0, q0, hargs, rfl, rfl, h0, r0⟩ := trodAll_cons hA
  obtain ⟨rfl, rfl, rfl⟩ := trodAll_nil r0
  obtain rfl : args = #[v0] := by cases args; simp_all
  obtain ⟨rfl, rfl⟩ := trodVars_none hV
  have k0 := h0
  have lt0 : ∀ x ∈ p0, x.block < W.heap.size := by obtain ⟨m, hm⟩ := k0; exact DataW.trod_lt m _ _ _ hm
  obtain ⟨fu0, hf0⟩ := k0
  obtain ⟨cs0, rfl, _⟩ := okWide_struct Tryz.underlying44 (hval 0 44 v0 rfl rfl)
  obtain ⟨x0, kk0, gd0⟩ := O.opens44 _ _ _ _ _ _ _ _ (show DataW.trod enc Tryz.prog W 0 (fun _ => true) true fu0 44 cs0.toList = some _ from hf0)
  obtain ⟨A0_4, c0_4, A0_9, c0_9, eq0, l0_4, g0_4, l0_9, g0_9⟩ := k44_open kk0
  obtain rfl := O.arr_of eq0
  clear hA0 hval0 hsz0 hsz
  refine (Go.Proofs.YtdlhidjphaaklaaGreat.H.FnExactMidTree x0 gd0 W g0_4 l0_4 g0_9 l0_9).mono fun e W' ⟨he, bel0⟩ => ?_
  have bel : Below W.heap.size W W' := bel0
  subst he
  exact ⟨_, rfl, _, _, _, [], _, [], hW', trodAll_mk1 (shut_bool Tryz.underlying4 _), (trodAll_cons_mk (Below.trod laidOut (by kernel_rfl) (of_decide_eq_true (by kernel_rfl)) h0 bel lt0) trodAll_mk0), rfl, bel.frame _, fun h => by cases h⟩
set_option maxHeartbeats 4000000 in
theorem closed_ : joinedFacts Tryz.prog 5 Tryz.f5 Rows.fnExactMidTreeSpec Rows.fnExactMidTreeRow = true := by
  unfold joinedFacts
  simp only [Bool.and_eq_true]
  repeat' refine And.intro ?_ ?_
  all_goals first
    | (with_reducible exact Facts.f_laid) | (with_reducible exact Facts.f_maps) | (with_reducible exact Facts.f_knobs) | (with_reducible exact Facts.f_heard) | (with_reducible exact Facts.f_may)
    | (rw [Facts.f_lifts]; rfl) | (rw [Facts.f_make]; rfl)
    | (as_aux_lemma => kernel_rfl)
theorem over : Rows.fnExactMidTreeRow.holds Tryz.pinned (OpenSpec.ofChange Rows.fnExactMidTreeSpec) :=
  OpenClaim.holds_of_wide 5 Tryz.f5 rfl rfl rfl rfl rfl rfl rfl ⟨rfl, rfl, rfl, rfl, rfl⟩ rfl rfl rfl rfl rfl (by as_aux_lemma => kernel_rfl) Tryz.func5 closed_
    (of_decide_eq_true (by as_aux_lemma => kernel_rfl)) (by unfold Func.isWrapper; first | (rw [if_pos (by decide +kernel)]; kernel_rfl) | (rw [if_neg (by decide +kernel)]; exact ⟨rfl, rfl⟩))
    (fun os started H enc _ => lifted os started H enc)
theorem proved : Rows.FnExactMidTreeSaid := over
#print axioms proved
end Go.Proofs.YtdlhidjphaaklaaGreat.fnExactMidTree
namespace Go.Proofs.YtdlhidjphaaklaaGreat
/-- The row, under a short name, for the claim. -/
theorem fnExactMidTree_holds : Rows.FnExactMidTreeSaid := fnExactMidTree.proved
end Go.Proofs.YtdlhidjphaaklaaGreat
