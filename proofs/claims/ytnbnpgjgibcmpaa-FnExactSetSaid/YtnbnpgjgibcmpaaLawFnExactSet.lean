-- Made by drive.py (a program of this session) over the kit's print; not written line by line by a hand.
/- The row of the law FnExactSet: for every input the law's call answers true and its arguments read as they did. No condition. -/
import Derived.Test.YtnbnpgjgibcmpaaRows
import Derived.Test.YtnbnpgjgibcmpaaFacts
import Derived.Test.YtnbnpgjgibcmpaaO
import Derived.Test.YtnbnpgjgibcmpaaWalkFnExactSet
import Derived.Test.YtnbnpgjgibcmpaaO
import Derived.WalkKit
import Derived.ProofKit
import Derived.OpenShut
import Derived.ShutString
import Derived.ChangeOld
import Derived.Below
import Derived.SizedLaws
namespace Go.Proofs.Ytnbnpgjgibcmpaa.fnExactSet
open Go.ChangeShapes Go.WideShapes Go.ChangeAt Go.RowKit Go.Proofs.Ytnbnpgjgibcmpaa Go.Proofs.Ytnbnpgjgibcmpaa.P Go.Proofs.YtnbnpgjgibcmpaaW.PrintWords
open Go.ChangeMaps (open_string shut_string)
set_option linter.unusedVariables false
theorem own : ownKnob Try.prog.godebug = none := by kernel_rfl
theorem laidOut : laidOutB Try.prog = true := Facts.f_laid
set_option maxRecDepth 100000 in
theorem lifted (os : Os) (started : os.Started) (H : Type) (enc : TypeId × Value → H) :
    ReturnsInHanded {} Try.checked os 12 .any (Rows.fnExactSetSpec.pre6 enc Try.prog Try.f12 Rows.fnExactSetRow.domain false) (Rows.fnExactSetSpec.post enc Try.prog Try.f12 false true false false) := by
  refine returnsInHanded_of_change_sized (C := Try.checked) own started (by kernel_rfl) Try.func12
    (ChangeSpec.witness6 (enc := enc) (C := Try.checked) false ⟨#[], #[(.agg #[(.int .i64 0), (.int .i64 0), (.string ⟨#[]⟩), (.slice none 0 0), (.slice none 0 0)]), (.string ⟨#[]⟩), (.agg #[(.int .i64 0), (.int .i64 0), (.string ⟨#[]⟩), (.slice none 0 0), (.slice none 0 0)])], []⟩ 8 (by kernel_rfl) (by kernel_rfl) (by kernel_rfl) (by kernel_rfl)) ?_
  intro W base args ds gs before hval0 hW hcnd hsz0 _
  have hsz : (DataW.weightsEach Try.prog (Try.f12.params.toList ++ Rows.fnExactSetSpec.plain.varTypes Try.prog) (ds ++ gs)).all (· ≤ reachBytes) = true := hsz0
  have hval : ∀ (j : Nat) t v, Try.f12.params[j]? = some t → args[j]? = some v → Value.okWide Try.prog W .any base t v := hval0
  have hW' := hW
  obtain ⟨p, q, hA0, hV, rfl, hfz, hnd⟩ := hW
  have hA : DataW.TrodAll enc Try.prog W 0 (fun _ => true) true Try.f12.params.toList args.toList ds p := hA0
  rw [Try.params12] at hA hval hsz
  obtain ⟨v0, vs0, d0, ds0, p0, q0, hargs, rfl, rfl, h0, r0⟩ := trodAll_cons hA
  obtain ⟨v1, vs1, d1, ds1, p1, q1, rfl, rfl, rfl, h1, r1⟩ := trodAll_cons r0
  obtain ⟨v2, vs2, d2, ds2, p2, q2, rfl, rfl, rfl, h2, r2⟩ := trodAll_cons r1
  obtain ⟨rfl, rfl, rfl⟩ := trodAll_nil r2
  obtain rfl : args = #[v0, v1, v2] := by cases args; simp_all
  obtain ⟨rfl, rfl⟩ := trodVars_none hV
  have k0 := h0
  have lt0 : ∀ x ∈ p0, x.block < W.heap.size := by obtain ⟨m, hm⟩ := k0; exact DataW.trod_lt m _ _ _ hm
  obtain ⟨fu0, hf0⟩ := k0
  obtain ⟨cs0, rfl, _⟩ := okWide_struct Try.underlying36 (hval 0 36 v0 rfl rfl)
  obtain ⟨x0, kk0, gd0⟩ := O.opens36 _ _ _ _ _ _ _ _ (show DataW.trod enc Try.prog W 0 (fun _ => true) true fu0 36 cs0.toList = some _ from hf0)
  obtain ⟨A0_3, c0_3, A0_4, c0_4, eq0, l0_3, g0_3, l0_4, g0_4⟩ := k36_open kk0
  obtain rfl := O.arr_of eq0
  obtain ⟨a1, rfl, rfl, rfl, y1⟩ := open_string Try.underlying9 (hval 1 9 v1 rfl rfl) h1
  have w1 : a1.size ≤ 140737488351232 := by
    have z := sized_string hsz (j := 1) (t := 9) rfl rfl
    rw [Array.length_toList] at z
    exact z
  have k2 := h2
  have lt2 : ∀ x ∈ p2, x.block < W.heap.size := by obtain ⟨m, hm⟩ := k2; exact DataW.trod_lt m _ _ _ hm
  obtain ⟨fu2, hf2⟩ := k2
  obtain ⟨cs2, rfl, _⟩ := okWide_struct Try.underlying36 (hval 2 36 v2 rfl rfl)
  obtain ⟨x2, kk2, gd2⟩ := O.opens36 _ _ _ _ _ _ _ _ (show DataW.trod enc Try.prog W 0 (fun _ => true) true fu2 36 cs2.toList = some _ from hf2)
  obtain ⟨A2_3, c2_3, A2_4, c2_4, eq2, l2_3, g2_3, l2_4, g2_4⟩ := k36_open kk2
  obtain rfl := O.arr_of eq2
  clear hA0 hval0 hsz0 hsz
  refine (Go.Proofs.Ytnbnpgjgibcmpaa.H.FnExactSet x0 a1 x2 gd0 w1 gd2 W g0_3 l0_3 g0_4 l0_4 g2_3 l2_3 g2_4 l2_4).mono fun e W' ⟨he, bel0⟩ => ?_
  have bel : Below W.heap.size W W' := bel0
  subst he
  exact ⟨_, rfl, _, _, _, [], _, [], hW', trodAll_mk1 (shut_bool Try.underlying4 _), (trodAll_cons_mk (Below.trod laidOut (by kernel_rfl) (of_decide_eq_true (by kernel_rfl)) h0 bel lt0) (trodAll_cons_mk (shut_string Try.underlying9 y1) (trodAll_cons_mk (Below.trod laidOut (by kernel_rfl) (of_decide_eq_true (by kernel_rfl)) h2 bel lt2) trodAll_mk0))), rfl, bel.frame _, fun h => by cases h⟩
theorem closed_ : joinedFacts Try.prog 12 Try.f12 Rows.fnExactSetSpec Rows.fnExactSetRow = true := by
  unfold joinedFacts
  simp only [Bool.and_eq_true]
  repeat' refine And.intro ?_ ?_
  all_goals first
    | (with_reducible exact Facts.f_laid) | (with_reducible exact Facts.f_maps) | (with_reducible exact Facts.f_knobs) | (with_reducible exact Facts.f_heard) | (with_reducible exact Facts.f_may)
    | (rw [Facts.f_lifts]; rfl) | (rw [Facts.f_make]; rfl)
    | (as_aux_lemma => kernel_rfl)
theorem over : Rows.fnExactSetRow.holds Try.pinned (OpenSpec.ofChange Rows.fnExactSetSpec) :=
  OpenClaim.holds_of_wide 12 Try.f12 rfl rfl rfl rfl rfl rfl rfl ⟨rfl, rfl, rfl, rfl, rfl⟩ rfl rfl rfl rfl rfl (by as_aux_lemma => kernel_rfl) Try.func12 closed_
    (of_decide_eq_true (by as_aux_lemma => kernel_rfl)) (by unfold Func.isWrapper; first | (rw [if_pos (by decide +kernel)]; kernel_rfl) | (rw [if_neg (by decide +kernel)]; exact ⟨rfl, rfl⟩))
    (fun os started H enc _ => lifted os started H enc)
theorem proved : Rows.FnExactSetSaid := over
#print axioms proved
end Go.Proofs.Ytnbnpgjgibcmpaa.fnExactSet
namespace Go.Proofs.Ytnbnpgjgibcmpaa
/-- The row, under a short name, for the claim. -/
theorem fnExactSet_holds : Rows.FnExactSetSaid := fnExactSet.proved
end Go.Proofs.Ytnbnpgjgibcmpaa
