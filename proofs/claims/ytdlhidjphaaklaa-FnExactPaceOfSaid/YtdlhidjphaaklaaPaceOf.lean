/- What PaceOf reads: program and reference read the same. -/
import Derived.Test.YtdlhidjphaaklaaAid
import Derived.Test.YtdlhidjphaaklaaBase
import Derived.Test.YtdlhidjphaaklaaCopy
import Derived.Test.YtdlhidjphaaklaaEv
import Derived.Test.YtdlhidjphaaklaaGet
import Derived.Test.YtdlhidjphaaklaaKeys
import Derived.Test.YtdlhidjphaaklaaLists
import Derived.Test.YtdlhidjphaaklaaMark
import Derived.Test.YtdlhidjphaaklaaOwn
import Derived.Test.YtdlhidjphaaklaaP_impl_PaceOf
import Derived.Test.YtdlhidjphaaklaaP_spec_Get
import Derived.Test.YtdlhidjphaaklaaP_spec_l2Times
import Derived.Test.YtdlhidjphaaklaaP_spec_l7In
import Derived.Test.YtdlhidjphaaklaaPaceIn
import Derived.Test.YtdlhidjphaaklaaSpanOf
import Derived.Test.YtdlhidjphaaklaaSpecAt
import Derived.Test.YtdlhidjphaaklaaSpecGetG
import Derived.Test.YtdlhidjphaaklaaStrange
import Derived.Test.YtdlhidjphaaklaaTok
import Derived.Test.YtdlhidjphaaklaaTree
namespace Go.Proofs.Ytdlhidjphaaklaa.H
open Go.RowKit Go.Proofs.Ytdlhidjphaaklaa.P Go.Proofs.YtdlhidjphaaklaaW.PrintWords Go.Proofs.Ytdlhidjphaaklaa.M
set_option linter.unusedVariables false
set_option linter.unusedSimpArgs false

def DOWN : ByteArray := ⟨#[100, 111, 119, 110]⟩
def DSPAN : ByteArray := ⟨#[100, 111, 119, 110, 115, 112, 97, 110]⟩
def UP : ByteArray := ⟨#[117, 112]⟩
def USPAN : ByteArray := ⟨#[117, 112, 115, 112, 97, 110]⟩
theorem tDOWN : DOWN.toList = [100, 111, 119, 110] := Lib.toList_data DOWN
theorem tDSPAN : DSPAN.toList = [100, 111, 119, 110, 115, 112, 97, 110] := Lib.toList_data DSPAN
theorem tUP : UP.toList = [117, 112] := Lib.toList_data UP
theorem tUSPAN : USPAN.toList = [117, 112, 115, 112, 97, 110] := Lib.toList_data USPAN
def K4 : List ByteArray := [DOWN, DSPAN, UP, USPAN]
/-- An int at a Key, and whether it fits. -/
noncomputable def intR (x : S33) (K : ByteArray) (d : Int) : Int × Bool := if (getK x K).isSome = true then ((getV x K).f1, if (getV x K).f0 = 2 then inB (getV x K).f1 0 1000 else false) else (d, true)
noncomputable def spanR (x : S33) (K : ByteArray) (d : Int) : Int × Bool := if (getK x K).isSome = true then ((spanOf (getV x K).f2).1, if (spanOf (getV x K).f2).2 = true then (if (getV x K).f0 = 3 then decide ((spanOf (getV x K).f2).1 ≤ 3600) else false) else false) else (d, true)
noncomputable def paceR (x : S33) : Int × Int × Int × Int × ByteArray :=
  if (intR x DOWN 0).2 = true then (if (spanR x DSPAN 300).2 = true then (if (intR x UP 0).2 = true then (if (spanR x USPAN 0).2 = true then ((intR x UP 0).1, (intR x DOWN 0).1, (spanR x USPAN 0).1, (spanR x DSPAN 300).1, ⟨#[]⟩) else (0, 0, 0, 0, USPAN)) else (0, 0, 0, 0, UP)) else (0, 0, 0, 0, DSPAN)) else (0, 0, 0, 0, DOWN)
theorem size_get (x : S33) (K : ByteArray) (ht : totK x ≤ 1048576) : (getV x K).f2.size ≤ 1048576 := by
  unfold getV getK
  split
  · cases hq : kAt x.f3 K with
    | none => exact Nat.zero_le _
    | some i =>
      rw [Option.bind_some]
      cases hx : x.f4[i]? with
      | none => exact Nat.zero_le _
      | some y =>
        have hm := List.mem_of_getElem? hx
        have h1 := totK_kid hm
        have h2 := totK_eq y
        show y.f2.size ≤ _
        omega
  · exact Nat.zero_le _
theorem span_ev (s : ByteArray) (hs : s.size ≤ 1048576) : Ev (fun k => spec_SpanOf.f k s) (spanOf s) :=
  Ev.past (n := BIG + 30 + s.size) (fun k hk => spec_spanOf s (by omega) k (by omega) (by omega))
theorem spanI_ev (s : ByteArray) (hs : s.size ≤ 1048576) : Ev (fun k => impl_SpanOf.f k s) (spanOf s) :=
  Ev.past (n := BIG + 30) (fun k hk => impl_spanOf s (by omega) k hk)
theorem specInt_ev (x : S33) (K : ByteArray) (d : Int) (hc : cntTop x ≤ 1099511627776) : Ev (fun k => spec_l7Int.f k x.f0 x.f1 x.f2 x.f3 x.f4 K 0 1000 d) (intR x K d) := by
  unfold spec_l7Int.f intR
  refine Ev.bind (specGet_ev x K hc) ?_
  simp only
  by_cases h : (getK x K).isSome = true
  · rw [if_pos h]
    simp only [h, if_true]
    by_cases h2 : (getV x K).f0 = 2
    · simp only [h2, if_true]
      exact Ev.congr (fun k => by rw [l1In_eq, Option.bind_some]) (Ev.now _)
    · simp only [h2, if_false]
      exact Ev.now _
  · rw [if_neg h]
    simp only [h, if_false]
    exact Ev.now _
theorem specSpan_ev (x : S33) (K : ByteArray) (d : Int) (hc : cntTop x ≤ 1099511627776) (ht : totK x ≤ 1048576) : Ev (fun k => spec_l7Span.f k x.f0 x.f1 x.f2 x.f3 x.f4 K d) (spanR x K d) := by
  unfold spec_l7Span.f spanR
  refine Ev.bind (specGet_ev x K hc) ?_
  simp only
  by_cases h : (getK x K).isSome = true
  · rw [if_pos h]
    simp only [h, if_true]
    refine Ev.bind (span_ev _ (size_get x K ht)) ?_
    by_cases h2 : (spanOf (getV x K).f2).2 = true
    · simp only [h2, if_true]
      by_cases h3 : (getV x K).f0 = 3
      · simp only [h3, if_true]
        exact Ev.now _
      · simp only [h3, if_false]
        exact Ev.now _
    · simp only [h2, if_false]
      exact Ev.now _
  · rw [if_neg h]
    simp only [h, if_false]
    exact Ev.now _
/-! The program's loop over the four Keys. -/
section
variable (x : S33) (p0 p1 p2 p3 : Int)
theorem loopMiss (hk : ∀ k : Nat, impl_keysOf.f x.f0 x.f1 x.f2 x.f3 x.f4 = some x.f3) (i : Nat) (hi : i < 4) (hm : Lib.containsS x.f3 (K4.getD i ByteArray.empty) = false) (hl : x.f3.length ≤ 1099511627776) {r : Int × Int × Int × Int × ByteArray}
    (h : Ev (fun k => impl_PaceOf.l0 k K4 4 ((i + 1 : Nat) : Int) x.f0 x.f1 x.f2 x.f3 x.f4 p0 p1 p2 p3) r) : Ev (fun k => impl_PaceOf.l0 k K4 4 (i : Int) x.f0 x.f1 x.f2 x.f3 x.f4 p0 p1 p2 p3) r := by
  have hlen : (K4.length : Int) = 4 := rfl
  refine Ev.step (f := fun k => (slices_Contains_string_string.f k x.f3 (K4.getD i ByteArray.empty)).bind fun t309 => (if t309 = true then ((impl_Get.f x.f0 x.f1 x.f2 x.f3 x.f4 (K4.getD i ByteArray.empty)).bind fun bt310 => (if bt310.1 = 2 then ((impl_isMany.f bt310.2.1).bind fun t321 => (impl_PaceOf.j2 k (K4.getD i ByteArray.empty) bt310.2.1 t321 K4 4 i x.f0 x.f1 x.f2 x.f3 x.f4 p0 p1 p2 p3 bt310.1 bt310.2.1 bt310.2.2.1 bt310.2.2.2.1 bt310.2.2.2.2.1)) else (impl_PaceOf.j2 k (K4.getD i ByteArray.empty) bt310.2.1 false K4 4 i x.f0 x.f1 x.f2 x.f3 x.f4 p0 p1 p2 p3 bt310.1 bt310.2.1 bt310.2.2.1 bt310.2.2.2.1 bt310.2.2.2.2.1))) else (impl_PaceOf.l0 k K4 4 (wrap64 ((i : Int) + 1)) x.f0 x.f1 x.f2 x.f3 x.f4 p0 p1 p2 p3))) (fun k => ?_) ?_
  · simp only [impl_PaceOf.l0]
    rw [if_pos (by omega), if_pos (by omega), if_pos (by omega), hk k, Option.bind_some]
    rfl
  · refine Ev.bind (has_ev x.f3 _ hl) ?_
    rw [hm]
    simp only [Bool.false_eq_true, if_false]
    rw [wsucc (by omega)]
    exact h
theorem loopHit (hk : ∀ k : Nat, impl_keysOf.f x.f0 x.f1 x.f2 x.f3 x.f4 = some x.f3) (hg : ∀ (k : Nat) (K : ByteArray), impl_Get.f x.f0 x.f1 x.f2 x.f3 x.f4 K = some ((getV x K).f0, (getV x K).f1, (getV x K).f2, (getV x K).f3, (getV x K).f4, (getK x K).isSome)) (ht : totK x ≤ 1048576) (hl : x.f3.length ≤ 1099511627776) (i : Nat) (hi : i < 4) (K : ByteArray) (hK : K4.getD i ByteArray.empty = K) (hm : Lib.containsS x.f3 K = true) {r : Int × Int × Int × Int × ByteArray}
    (h : Ev (fun k => impl_PaceOf.j2 k K (getV x K).f1 (if (getV x K).f0 = 2 then inB (getV x K).f1 0 1000 else false) K4 4 (i : Int) x.f0 x.f1 x.f2 x.f3 x.f4 p0 p1 p2 p3 (getV x K).f0 (getV x K).f1 (getV x K).f2 (getV x K).f3 (getV x K).f4) r) : Ev (fun k => impl_PaceOf.l0 k K4 4 (i : Int) x.f0 x.f1 x.f2 x.f3 x.f4 p0 p1 p2 p3) r := by
  have hlen : (K4.length : Int) = 4 := rfl
  subst hK
  refine Ev.step (f := fun k => (slices_Contains_string_string.f k x.f3 (K4.getD i ByteArray.empty)).bind fun t309 => (if t309 = true then ((impl_Get.f x.f0 x.f1 x.f2 x.f3 x.f4 (K4.getD i ByteArray.empty)).bind fun bt310 => (if bt310.1 = 2 then ((impl_isMany.f bt310.2.1).bind fun t321 => (impl_PaceOf.j2 k (K4.getD i ByteArray.empty) bt310.2.1 t321 K4 4 i x.f0 x.f1 x.f2 x.f3 x.f4 p0 p1 p2 p3 bt310.1 bt310.2.1 bt310.2.2.1 bt310.2.2.2.1 bt310.2.2.2.2.1)) else (impl_PaceOf.j2 k (K4.getD i ByteArray.empty) bt310.2.1 false K4 4 i x.f0 x.f1 x.f2 x.f3 x.f4 p0 p1 p2 p3 bt310.1 bt310.2.1 bt310.2.2.1 bt310.2.2.2.1 bt310.2.2.2.2.1))) else (impl_PaceOf.l0 k K4 4 (wrap64 ((i : Int) + 1)) x.f0 x.f1 x.f2 x.f3 x.f4 p0 p1 p2 p3))) (fun k => ?_) ?_
  · simp only [impl_PaceOf.l0]
    rw [if_pos (by omega), if_pos (by omega), if_pos (by omega), hk k, Option.bind_some]
    rfl
  · refine Ev.bind (has_ev x.f3 _ hl) ?_
    rw [hm]
    simp only [if_true]
    refine Ev.congr (fun k => by rw [hg k, Option.bind_some]) ?_
    simp only
    by_cases h2 : (getV x (K4.getD i ByteArray.empty)).f0 = 2
    · rw [if_pos h2] at h
      simp only [h2, if_true] at h ⊢
      refine Ev.congr (fun k => by unfold impl_isMany.f; rw [from_eq, Option.bind_some, Option.bind_some]) h
    · rw [if_neg h2] at h
      simp only [h2, if_false] at h ⊢
      exact h
theorem j2Int (K : ByteArray) (h1 : ¬ K.toList = [100, 111, 119, 110, 115, 112, 97, 110]) (h2 : (K.toList == ([117, 112, 115, 112, 97, 110] : List UInt8)) = false) (n : Int) (b : Bool) (i : Int) (q0 q1 : Int) (q2 : ByteArray) (q3 : List ByteArray) (q4 : List S33) {r : Int × Int × Int × Int × ByteArray}
    (h : Ev (fun k => impl_PaceOf.j4 k K n b K4 4 i x.f0 x.f1 x.f2 x.f3 x.f4 p0 p1 p2 p3) r) : Ev (fun k => impl_PaceOf.j2 k K n b K4 4 i x.f0 x.f1 x.f2 x.f3 x.f4 p0 p1 p2 p3 q0 q1 q2 q3 q4) r := by
  refine Ev.step (f := fun k => impl_PaceOf.j3 k K n b K4 4 i false x.f0 x.f1 x.f2 x.f3 x.f4 p0 p1 p2 p3 q0 q1 q2 q3 q4) (fun k => by simp only [impl_PaceOf.j2]; rw [if_neg h1, h2]) ?_
  exact Ev.step (f := fun k => impl_PaceOf.j4 k K n b K4 4 i x.f0 x.f1 x.f2 x.f3 x.f4 p0 p1 p2 p3) (fun k => by simp only [impl_PaceOf.j3]; rw [if_neg (by simp)]) h
theorem j2Span (K : ByteArray) (hK : K.toList = [100, 111, 119, 110, 115, 112, 97, 110] ∨ (K.toList == ([117, 112, 115, 112, 97, 110] : List UInt8)) = true) (n : Int) (b : Bool) (i : Int) (q0 q1 : Int) (q2 : ByteArray) (q3 : List ByteArray) (q4 : List S33) (hq : q2.size ≤ 1048576) {r : Int × Int × Int × Int × ByteArray}
    (h : Ev (fun k => impl_PaceOf.j4 k K (spanOf q2).1 (if (spanOf q2).2 = true then (if q0 = 3 then decide ((spanOf q2).1 ≤ 3600) else false) else false) K4 4 i x.f0 x.f1 x.f2 x.f3 x.f4 p0 p1 p2 p3) r) : Ev (fun k => impl_PaceOf.j2 k K n b K4 4 i x.f0 x.f1 x.f2 x.f3 x.f4 p0 p1 p2 p3 q0 q1 q2 q3 q4) r := by
  refine Ev.step (f := fun k => impl_PaceOf.j3 k K n b K4 4 i true x.f0 x.f1 x.f2 x.f3 x.f4 p0 p1 p2 p3 q0 q1 q2 q3 q4) (fun k => ?_) ?_
  · simp only [impl_PaceOf.j2]
    by_cases h1 : K.toList = [100, 111, 119, 110, 115, 112, 97, 110]
    · rw [if_pos h1]
    · rw [if_neg h1, hK.resolve_left h1]
  · refine Ev.step (f := fun k => (impl_SpanOf.f k q2).bind fun bt322 => (if bt322.2 = true then (if q0 = 3 then (impl_PaceOf.j4 k K bt322.1 (decide (bt322.1 ≤ 3600)) K4 4 i x.f0 x.f1 x.f2 x.f3 x.f4 p0 p1 p2 p3) else (impl_PaceOf.j4 k K bt322.1 false K4 4 i x.f0 x.f1 x.f2 x.f3 x.f4 p0 p1 p2 p3)) else (impl_PaceOf.j4 k K bt322.1 false K4 4 i x.f0 x.f1 x.f2 x.f3 x.f4 p0 p1 p2 p3))) (fun k => by simp only [impl_PaceOf.j3]; rw [if_pos trivial]) ?_
    refine Ev.bind (spanI_ev q2 hq) ?_
    by_cases h2 : (spanOf q2).2 = true
    · rw [if_pos h2] at h
      simp only [h2, if_true] at h ⊢
      by_cases h3 : q0 = 3
      · rw [if_pos h3] at h
        simp only [h3, if_true] at h ⊢
        exact h
      · rw [if_neg h3] at h
        simp only [h3, if_false] at h ⊢
        exact h
    · rw [if_neg h2] at h
      simp only [h2, if_false] at h ⊢
      exact h
theorem j4No (K : ByteArray) (n i : Int) : Ev (fun k => impl_PaceOf.j4 k K n false K4 4 i x.f0 x.f1 x.f2 x.f3 x.f4 p0 p1 p2 p3) (0, 0, 0, 0, K) :=
  Ev.step (f := fun _ => some (0, 0, 0, 0, K)) (fun k => by simp only [impl_PaceOf.j4]; rw [if_neg (by simp)]) (Ev.now _)
theorem have_key (h5 : x.f0 = 5) (hlen : x.f3.length = x.f4.length) (K : ByteArray) : Lib.containsS x.f3 K = (getK x K).isSome := by
  rw [Bool.eq_iff_iff, Lib.containsS_iff]
  unfold getK
  rw [if_pos h5]
  constructor
  · intro h
    cases hq : kAt x.f3 K with
    | none =>
      obtain ⟨j, hj, e⟩ := List.getElem_of_mem h
      exact absurd (by rw [getD_at _ _ hj, e]) (kAt_none hq j hj)
    | some i =>
      have := (kAt_some hq).1
      rw [Option.bind_some, List.getElem?_eq_getElem (by omega)]
      rfl
  · intro h
    cases hq : kAt x.f3 K with
    | none => rw [hq] at h; simp at h
    | some i =>
      have h1 := kAt_some hq
      rw [← h1.2.1, getD_at _ _ h1.1]
      exact List.getElem_mem h1.1
theorem stepDOWN (hk : ∀ k : Nat, impl_keysOf.f x.f0 x.f1 x.f2 x.f3 x.f4 = some x.f3) (hg : ∀ (k : Nat) (K : ByteArray), impl_Get.f x.f0 x.f1 x.f2 x.f3 x.f4 K = some ((getV x K).f0, (getV x K).f1, (getV x K).f2, (getV x K).f3, (getV x K).f4, (getK x K).isSome)) (ht : totK x ≤ 1048576) (hl : x.f3.length ≤ 1099511627776) (h5 : x.f0 = 5) (hlen : x.f3.length = x.f4.length) {r : Int × Int × Int × Int × ByteArray} (h : (intR x DOWN p1).2 = true → Ev (fun k => impl_PaceOf.l0 k K4 4 (1 : Int) x.f0 x.f1 x.f2 x.f3 x.f4 p0 (intR x DOWN p1).1 p2 p3) r) (h' : (intR x DOWN p1).2 = false → r = (0, 0, 0, 0, DOWN)) : Ev (fun k => impl_PaceOf.l0 k K4 4 (0 : Int) x.f0 x.f1 x.f2 x.f3 x.f4 p0 p1 p2 p3) r := by
  have hc := have_key x h5 hlen DOWN
  by_cases hs : (getK x DOWN).isSome = true
  · have e : intR x DOWN p1 = ((getV x DOWN).f1, if (getV x DOWN).f0 = 2 then inB (getV x DOWN).f1 0 1000 else false) := by unfold intR; rw [if_pos hs]
    rw [e] at h h'
    refine loopHit x p0 p1 p2 p3 hk hg ht hl 0 (by omega) DOWN rfl (by rw [hc, hs]) (j2Int x p0 p1 p2 p3 DOWN (by rw [tDOWN]; decide) (by rw [tDOWN]; decide) _ _ _ _ _ _ _ _ ?_)
    cases hb : (if (getV x DOWN).f0 = 2 then inB (getV x DOWN).f1 0 1000 else false) with
    | false =>
      rw [h' hb]
      exact j4No x p0 p1 p2 p3 DOWN _ _
    | true =>
      refine Ev.step (f := fun k => impl_PaceOf.l0 k K4 4 (1 : Int) x.f0 x.f1 x.f2 x.f3 x.f4 p0 (getV x DOWN).f1 p2 p3) (fun k => ?_) (h hb)
      simp only [impl_PaceOf.j4]
      rw [if_pos trivial, if_pos tDOWN, show wrap64 (((0 : Nat) : Int) + 1) = 1 from by rw [wsucc (by omega)]; rfl]
  · have e : intR x DOWN p1 = (p1, true) := by unfold intR; rw [if_neg hs]
    rw [e] at h
    exact loopMiss x p0 p1 p2 p3 hk 0 (by omega) (by show Lib.containsS x.f3 DOWN = false; rw [hc]; simpa using hs) hl (h rfl)
theorem stepDSPAN (hk : ∀ k : Nat, impl_keysOf.f x.f0 x.f1 x.f2 x.f3 x.f4 = some x.f3) (hg : ∀ (k : Nat) (K : ByteArray), impl_Get.f x.f0 x.f1 x.f2 x.f3 x.f4 K = some ((getV x K).f0, (getV x K).f1, (getV x K).f2, (getV x K).f3, (getV x K).f4, (getK x K).isSome)) (ht : totK x ≤ 1048576) (hl : x.f3.length ≤ 1099511627776) (h5 : x.f0 = 5) (hlen : x.f3.length = x.f4.length) {r : Int × Int × Int × Int × ByteArray} (h : (spanR x DSPAN p3).2 = true → Ev (fun k => impl_PaceOf.l0 k K4 4 (2 : Int) x.f0 x.f1 x.f2 x.f3 x.f4 p0 p1 p2 (spanR x DSPAN p3).1) r) (h' : (spanR x DSPAN p3).2 = false → r = (0, 0, 0, 0, DSPAN)) : Ev (fun k => impl_PaceOf.l0 k K4 4 (1 : Int) x.f0 x.f1 x.f2 x.f3 x.f4 p0 p1 p2 p3) r := by
  have hc := have_key x h5 hlen DSPAN
  by_cases hs : (getK x DSPAN).isSome = true
  · have e : spanR x DSPAN p3 = ((spanOf (getV x DSPAN).f2).1, if (spanOf (getV x DSPAN).f2).2 = true then (if (getV x DSPAN).f0 = 3 then decide ((spanOf (getV x DSPAN).f2).1 ≤ 3600) else false) else false) := by unfold spanR; rw [if_pos hs]
    rw [e] at h h'
    refine loopHit x p0 p1 p2 p3 hk hg ht hl 1 (by omega) DSPAN rfl (by rw [hc, hs]) (j2Span x p0 p1 p2 p3 DSPAN (by rw [tDSPAN]; decide) _ _ _ _ _ _ _ _ (size_get x DSPAN ht) ?_)
    cases hb : (if (spanOf (getV x DSPAN).f2).2 = true then (if (getV x DSPAN).f0 = 3 then decide ((spanOf (getV x DSPAN).f2).1 ≤ 3600) else false) else false) with
    | false =>
      rw [h' hb]
      exact j4No x p0 p1 p2 p3 DSPAN _ _
    | true =>
      refine Ev.step (f := fun k => impl_PaceOf.l0 k K4 4 (2 : Int) x.f0 x.f1 x.f2 x.f3 x.f4 p0 p1 p2 (spanOf (getV x DSPAN).f2).1) (fun k => ?_) (h hb)
      simp only [impl_PaceOf.j4]
      rw [if_pos trivial, if_neg (by rw [tDSPAN]; decide), if_pos tDSPAN, show wrap64 (((1 : Nat) : Int) + 1) = 2 from by rw [wsucc (by omega)]; rfl]
  · have e : spanR x DSPAN p3 = (p3, true) := by unfold spanR; rw [if_neg hs]
    rw [e] at h
    exact loopMiss x p0 p1 p2 p3 hk 1 (by omega) (by show Lib.containsS x.f3 DSPAN = false; rw [hc]; simpa using hs) hl (h rfl)
theorem stepUP (hk : ∀ k : Nat, impl_keysOf.f x.f0 x.f1 x.f2 x.f3 x.f4 = some x.f3) (hg : ∀ (k : Nat) (K : ByteArray), impl_Get.f x.f0 x.f1 x.f2 x.f3 x.f4 K = some ((getV x K).f0, (getV x K).f1, (getV x K).f2, (getV x K).f3, (getV x K).f4, (getK x K).isSome)) (ht : totK x ≤ 1048576) (hl : x.f3.length ≤ 1099511627776) (h5 : x.f0 = 5) (hlen : x.f3.length = x.f4.length) {r : Int × Int × Int × Int × ByteArray} (h : (intR x UP p0).2 = true → Ev (fun k => impl_PaceOf.l0 k K4 4 (3 : Int) x.f0 x.f1 x.f2 x.f3 x.f4 (intR x UP p0).1 p1 p2 p3) r) (h' : (intR x UP p0).2 = false → r = (0, 0, 0, 0, UP)) : Ev (fun k => impl_PaceOf.l0 k K4 4 (2 : Int) x.f0 x.f1 x.f2 x.f3 x.f4 p0 p1 p2 p3) r := by
  have hc := have_key x h5 hlen UP
  by_cases hs : (getK x UP).isSome = true
  · have e : intR x UP p0 = ((getV x UP).f1, if (getV x UP).f0 = 2 then inB (getV x UP).f1 0 1000 else false) := by unfold intR; rw [if_pos hs]
    rw [e] at h h'
    refine loopHit x p0 p1 p2 p3 hk hg ht hl 2 (by omega) UP rfl (by rw [hc, hs]) (j2Int x p0 p1 p2 p3 UP (by rw [tUP]; decide) (by rw [tUP]; decide) _ _ _ _ _ _ _ _ ?_)
    cases hb : (if (getV x UP).f0 = 2 then inB (getV x UP).f1 0 1000 else false) with
    | false =>
      rw [h' hb]
      exact j4No x p0 p1 p2 p3 UP _ _
    | true =>
      refine Ev.step (f := fun k => impl_PaceOf.l0 k K4 4 (3 : Int) x.f0 x.f1 x.f2 x.f3 x.f4 (getV x UP).f1 p1 p2 p3) (fun k => ?_) (h hb)
      simp only [impl_PaceOf.j4]
      rw [if_pos trivial, if_neg (by rw [tUP]; decide), if_neg (by rw [tUP]; decide), if_pos tUP, show wrap64 (((2 : Nat) : Int) + 1) = 3 from by rw [wsucc (by omega)]; rfl]
  · have e : intR x UP p0 = (p0, true) := by unfold intR; rw [if_neg hs]
    rw [e] at h
    exact loopMiss x p0 p1 p2 p3 hk 2 (by omega) (by show Lib.containsS x.f3 UP = false; rw [hc]; simpa using hs) hl (h rfl)
theorem stepUSPAN (hk : ∀ k : Nat, impl_keysOf.f x.f0 x.f1 x.f2 x.f3 x.f4 = some x.f3) (hg : ∀ (k : Nat) (K : ByteArray), impl_Get.f x.f0 x.f1 x.f2 x.f3 x.f4 K = some ((getV x K).f0, (getV x K).f1, (getV x K).f2, (getV x K).f3, (getV x K).f4, (getK x K).isSome)) (ht : totK x ≤ 1048576) (hl : x.f3.length ≤ 1099511627776) (h5 : x.f0 = 5) (hlen : x.f3.length = x.f4.length) {r : Int × Int × Int × Int × ByteArray} (h : (spanR x USPAN p2).2 = true → Ev (fun k => impl_PaceOf.l0 k K4 4 (4 : Int) x.f0 x.f1 x.f2 x.f3 x.f4 p0 p1 (spanR x USPAN p2).1 p3) r) (h' : (spanR x USPAN p2).2 = false → r = (0, 0, 0, 0, USPAN)) : Ev (fun k => impl_PaceOf.l0 k K4 4 (3 : Int) x.f0 x.f1 x.f2 x.f3 x.f4 p0 p1 p2 p3) r := by
  have hc := have_key x h5 hlen USPAN
  by_cases hs : (getK x USPAN).isSome = true
  · have e : spanR x USPAN p2 = ((spanOf (getV x USPAN).f2).1, if (spanOf (getV x USPAN).f2).2 = true then (if (getV x USPAN).f0 = 3 then decide ((spanOf (getV x USPAN).f2).1 ≤ 3600) else false) else false) := by unfold spanR; rw [if_pos hs]
    rw [e] at h h'
    refine loopHit x p0 p1 p2 p3 hk hg ht hl 3 (by omega) USPAN rfl (by rw [hc, hs]) (j2Span x p0 p1 p2 p3 USPAN (by rw [tUSPAN]; decide) _ _ _ _ _ _ _ _ (size_get x USPAN ht) ?_)
    cases hb : (if (spanOf (getV x USPAN).f2).2 = true then (if (getV x USPAN).f0 = 3 then decide ((spanOf (getV x USPAN).f2).1 ≤ 3600) else false) else false) with
    | false =>
      rw [h' hb]
      exact j4No x p0 p1 p2 p3 USPAN _ _
    | true =>
      refine Ev.step (f := fun k => impl_PaceOf.l0 k K4 4 (4 : Int) x.f0 x.f1 x.f2 x.f3 x.f4 p0 p1 (spanOf (getV x USPAN).f2).1 p3) (fun k => ?_) (h hb)
      simp only [impl_PaceOf.j4]
      rw [if_pos trivial, if_neg (by rw [tUSPAN]; decide), if_neg (by rw [tUSPAN]; decide), if_neg (by rw [tUSPAN]; decide), show wrap64 (((3 : Nat) : Int) + 1) = 4 from by rw [wsucc (by omega)]; rfl]
  · have e : spanR x USPAN p2 = (p2, true) := by unfold spanR; rw [if_neg hs]
    rw [e] at h
    exact loopMiss x p0 p1 p2 p3 hk 3 (by omega) (by show Lib.containsS x.f3 USPAN = false; rw [hc]; simpa using hs) hl (h rfl)
end
/-- What PaceOf answers. -/
noncomputable def paceE (x : S33) : Int × Int × Int × Int × ByteArray :=
  if x.f0 = 5 ∧ treeOkK x = true then (if fit1 K4 x.f3 = ⟨#[]⟩ then paceR x else (0, 0, 0, 0, fit1 K4 x.f3)) else (0, 0, 0, 0, ⟨#[46]⟩)
theorem empty_iff (s : ByteArray) : s.toList = [] ↔ s = ⟨#[]⟩ := by
  have hz : (⟨#[]⟩ : ByteArray).toList = [] := Lib.toList_data ⟨#[]⟩
  exact ⟨fun h => tlb.1 (h.trans hz.symm), fun h => h ▸ hz⟩
theorem impl_pace_ev (x : S33) (hc : cntTop x ≤ 1099511627776) (ht : totK x ≤ 1048576) : Ev (fun k => impl_PaceOf.f k x.f0 x.f1 x.f2 x.f3 x.f4) (paceE x) := by
  have hl : x.f3.length ≤ 1099511627776 := by unfold cntTop at hc; omega
  have hl4 : x.f4.length ≤ 1099511627776 := by have := len_cnt x.f4; unfold cntTop at hc; omega
  have none0 : Ev (fun k => impl_PaceOf.j0 k true x.f0 x.f1 x.f2 x.f3 x.f4) (0, 0, 0, 0, ⟨#[46]⟩) :=
    Ev.step (f := fun _ => some (0, 0, 0, 0, (⟨#[46]⟩ : ByteArray))) (fun k => by simp only [impl_PaceOf.j0]; rw [if_pos trivial]) (Ev.now _)
  unfold impl_PaceOf.f paceE
  by_cases h5 : x.f0 = 5
  · refine Ev.congr (fun k => if_pos h5) ?_
    refine Ev.bind (impl_treeOk_ev x ht) ?_
    by_cases hok : treeOkK x = true
    · rw [if_pos ⟨h5, hok⟩, hok]
      have hnode : nodeB x = true := by
        unfold treeOkK at hok
        rw [rightK_eq] at hok
        simp only [Bool.and_eq_true] at hok
        exact hok.2.1
      unfold nodeB at hnode
      rw [if_neg (by omega), if_pos h5] at hnode
      simp only [Bool.and_eq_true, decide_eq_true_eq] at hnode
      have hlen : x.f3.length = x.f4.length := hnode.1
      have hks : keysL x = x.f3 := by
        unfold keysL
        rw [← hlen, Nat.min_self, List.take_of_length_le (Nat.le_refl _)]
      have hasc := asc_keys hnode.2.1
      have hstr : ∀ k : Nat, impl_strange.f x.f0 x.f1 x.f2 x.f3 x.f4 K4 [] = some ((strangeV x K4 []).1, (strangeV x K4 []).2) := fun k => by
        unfold impl_strange.f
        rw [node_eta]
        exact if_pos ⟨hks ▸ hasc, List.Pairwise.nil, hl, hl4, by decide, by decide⟩
      have hko : ∀ k : Nat, impl_keysOf.f x.f0 x.f1 x.f2 x.f3 x.f4 = some x.f3 := fun k => by
        unfold impl_keysOf.f
        rw [node_eta, hks]
        exact if_pos ⟨hasc, hl, hl4⟩
      have hget : ∀ (k : Nat) (K : ByteArray), impl_Get.f x.f0 x.f1 x.f2 x.f3 x.f4 K = some ((getV x K).f0, (getV x K).f1, (getV x K).f2, (getV x K).f3, (getV x K).f4, (getK x K).isSome) := fun k K => by
        unfold impl_Get.f
        rw [node_eta]
        exact if_pos hc
      refine Ev.step (f := fun k => (some ((strangeV x K4 []).1, (strangeV x K4 []).2)).bind fun bt295 => (if bt295.2 = true then (some (0, 0, 0, 0, bt295.1)) else ((impl_PaceNew.f).bind fun bt297 => ((some (K4 : List ByteArray)).bind fun y302 => (impl_PaceOf.l0 k y302 (y302.length : Int) 0 x.f0 x.f1 x.f2 x.f3 x.f4 bt297.1 bt297.2.1 bt297.2.2.1 bt297.2.2.2))))) (fun k => ?_) ?_
      · rw [← hstr k]
        simp only [impl_PaceOf.j0]
        rw [if_neg (by simp)]
        rfl
      · have hv : strangeV x K4 [] = if fit1 K4 x.f3 = ⟨#[]⟩ then (⟨#[]⟩, false) else (fit1 K4 x.f3, true) := by
          unfold strangeV
          rw [hks, fit_str K4 (has_false.2 (by simp [K4, DOWN, DSPAN, UP, USPAN]))]
          by_cases hf : fit1 K4 x.f3 = ⟨#[]⟩
          · rw [if_pos hf, if_pos hf]
            split <;> rfl
          · rw [if_neg hf, if_neg hf]
            rfl
        rw [hv]
        by_cases hf : fit1 K4 x.f3 = ⟨#[]⟩
        · rw [if_pos hf, if_pos hf]
          refine Ev.congr (g := fun k => impl_PaceOf.l0 k K4 4 0 x.f0 x.f1 x.f2 x.f3 x.f4 0 0 0 300) (fun k => rfl) ?_
          refine stepDOWN x 0 0 0 300 hko hget ht hl h5 hlen (fun h1 => ?_) (fun h1 => by unfold paceR; rw [if_neg (by rw [h1]; simp)])
          refine stepDSPAN x 0 _ 0 300 hko hget ht hl h5 hlen (fun h2 => ?_) (fun h2 => by unfold paceR; rw [if_pos h1, if_neg (by rw [h2]; simp)])
          refine stepUP x 0 _ 0 _ hko hget ht hl h5 hlen (fun h3 => ?_) (fun h3 => by unfold paceR; rw [if_pos h1, if_pos h2, if_neg (by rw [h3]; simp)])
          refine stepUSPAN x _ _ 0 _ hko hget ht hl h5 hlen (fun h4 => ?_) (fun h4 => by unfold paceR; rw [if_pos h1, if_pos h2, if_pos h3, if_neg (by rw [h4]; simp)])
          unfold paceR
          rw [if_pos h1, if_pos h2, if_pos h3, if_pos h4]
          exact Ev.step (f := fun _ => some ((intR x UP 0).1, (intR x DOWN 0).1, (spanR x USPAN 0).1, (spanR x DSPAN 300).1, (⟨#[]⟩ : ByteArray))) (fun k => by simp only [impl_PaceOf.l0]; rw [if_neg (by omega)]) (Ev.now _)
        · rw [if_neg hf, if_neg hf]
          exact Ev.congr (fun k => by simp only [Option.bind_some, if_true]) (Ev.now _)
    · rw [if_neg (fun h => hok h.2), show treeOkK x = false by simpa using hok]
      exact none0
  · rw [if_neg (fun h => h5 h.1)]
    exact Ev.congr (fun k => if_neg h5) none0
end Go.Proofs.Ytdlhidjphaaklaa.H
