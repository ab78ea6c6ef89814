/- What NotesOf reads: program and reference read the same. (Under way: the reference's side.) -/
import Derived.Test.YtdlhidjphaaklaaAid
import Derived.Test.YtdlhidjphaaklaaAscIn
import Derived.Test.YtdlhidjphaaklaaBase
import Derived.Test.YtdlhidjphaaklaaBytes
import Derived.Test.YtdlhidjphaaklaaCopy
import Derived.Test.YtdlhidjphaaklaaEv
import Derived.Test.YtdlhidjphaaklaaGet
import Derived.Test.YtdlhidjphaaklaaKeys
import Derived.Test.YtdlhidjphaaklaaLists
import Derived.Test.YtdlhidjphaaklaaMark
import Derived.Test.YtdlhidjphaaklaaOwn
import Derived.Test.YtdlhidjphaaklaaP_impl_Get
import Derived.Test.YtdlhidjphaaklaaP_impl_NotesOf
import Derived.Test.YtdlhidjphaaklaaP_impl_isLetter
import Derived.Test.YtdlhidjphaaklaaP_impl_keysOf
import Derived.Test.YtdlhidjphaaklaaP_spec_NotesOf
import Derived.Test.YtdlhidjphaaklaaPlain
import Derived.Test.YtdlhidjphaaklaaTok
import Derived.Test.YtdlhidjphaaklaaTree
namespace Go.Proofs.Ytdlhidjphaaklaa.H
open Go.RowKit Go.Proofs.Ytdlhidjphaaklaa.P Go.Proofs.YtdlhidjphaaklaaW.PrintWords Go.Proofs.Ytdlhidjphaaklaa.M
set_option linter.unusedVariables false
set_option linter.unusedSimpArgs false

def quayB (s : ByteArray) : Bool := if (s.size : Int) ≥ 5 then ((s.extract 0 5).toList == ([113, 117, 97, 121, 47] : List UInt8)) else false
theorem l6Ours_eq (s : ByteArray) : spec_l6Ours.f s = some (quayB s) := by
  unfold spec_l6Ours.f quayB
  by_cases h : (s.size : Int) ≥ 5
  · rw [if_pos h, if_pos (by omega), if_pos (by omega), if_pos h]
  · rw [if_neg h, if_neg h]
noncomputable def noteB (K : ByteArray) (y : S33) : Bool := decide (y.f0 = 3) && (plainOk K && (quayB K || decide ((y.f2.size : Int) ≤ 40)))
noncomputable def notesG (x : S33) : Nat → Nat → List S66 → List S66 × ByteArray
  | 0, _, out => (out, ⟨#[]⟩)
  | d + 1, i, out => if noteB (x.f3.getD i ByteArray.empty) (x.f4.getD i z33) = true then notesG x d (i + 1) (out ++ [⟨x.f3.getD i ByteArray.empty, (x.f4.getD i z33).f2⟩]) else ([], x.f3.getD i ByteArray.empty)
noncomputable def notesE (x : S33) : List S66 × ByteArray := if x.f0 = 5 ∧ treeOkK x = true then notesG x x.f3.length 0 [] else ([], ⟨#[46]⟩)
theorem specNotes_loop (x : S33) (hk : ∀ y ∈ x.f3, y.size ≤ 1048576) (hl : x.f3.length = x.f4.length) (h3 : x.f3.length ≤ 1099511627776) :
    ∀ d i out, i + d = x.f3.length → out.length ≤ i → Ev (fun k => spec_NotesOf.l0 k out (i : Int) x.f0 x.f1 x.f2 x.f3 x.f4) (notesG x d i out) := by
  intro d
  induction d with
  | zero =>
    intro i out hi ho
    exact Ev.step (f := fun _ => some (out, (⟨#[]⟩ : ByteArray))) (fun k => by simp only [spec_NotesOf.l0]; rw [if_neg (by omega)]) (Ev.now _)
  | succ d ih =>
    intro i out hi ho
    have hm : x.f3.getD i ByteArray.empty ∈ x.f3 := by
      rw [List.getD_eq_getElem?_getD, List.getElem?_eq_getElem (by omega)]
      exact List.getElem_mem _
    have hs := hk _ hm
    have ih' := ih (i + 1) (out ++ [⟨x.f3.getD i ByteArray.empty, (x.f4.getD i z33).f2⟩]) (by omega) (by simp; omega)
    have e3 : rdOf ByteArray.empty x.f3 (i : Int) = x.f3.getD i ByteArray.empty := rfl
    have e4 : rd_T33 x.f4 (i : Int) = x.f4.getD i z33 := rfl
    have hp : Ev (fun k => spec_PlainOk.f k (x.f3.getD i ByteArray.empty)) (plainOk (x.f3.getD i ByteArray.empty)) := Ev.past (fun k hk => spec_plainOk _ (by omega) k hk)
    have bad : noteB (x.f3.getD i ByteArray.empty) (x.f4.getD i z33) = false → notesG x (d + 1) i out = ([], x.f3.getD i ByteArray.empty) := fun h => by
      simp only [notesG, h, Bool.false_eq_true, if_false]
    have good : noteB (x.f3.getD i ByteArray.empty) (x.f4.getD i z33) = true → notesG x (d + 1) i out = notesG x d (i + 1) (out ++ [⟨x.f3.getD i ByteArray.empty, (x.f4.getD i z33).f2⟩]) := fun h => by
      simp only [notesG, h, if_true]
    generalize hK : x.f3.getD i ByteArray.empty = K at *
    generalize hY : x.f4.getD i z33 = Y at *
    by_cases h1 : Y.f0 = 3
    · refine Ev.step (f := fun k => (spec_PlainOk.f k K).bind fun t388 => (if t388 = true then ((spec_l6Ours.f K).bind fun t390 => (if t390 = true then (if out.length < 4398046511104 then (spec_NotesOf.l0 k (out ++ [(⟨K, Y.f2⟩ : S66)]) (wrap64 ((i : Int) + 1)) x.f0 x.f1 x.f2 x.f3 x.f4) else (none)) else (if (Y.f2.size : Int) > 40 then (some (([] : List S66), K)) else (if out.length < 4398046511104 then (spec_NotesOf.l0 k (out ++ [(⟨K, Y.f2⟩ : S66)]) (wrap64 ((i : Int) + 1)) x.f0 x.f1 x.f2 x.f3 x.f4) else (none))))) else (some (([] : List S66), K)))) (fun k => by simp only [spec_NotesOf.l0, e3, e4]; rw [if_pos (by omega), if_pos (by omega), if_pos (by omega), if_pos h1]) ?_
      refine Ev.bind hp ?_
      cases h2 : plainOk K with
      | false =>
        rw [bad (by simp [noteB, h2])]
        exact Ev.now _
      | true =>
        simp only [l6Ours_eq, Option.bind_some, if_true, wsucc (show i ≤ 140737488351232 by omega), if_pos (show out.length < 4398046511104 by omega)]
        cases h3 : quayB K with
        | true =>
          rw [good (by simp [noteB, h1, h2, h3])]
          simpa only [if_true] using ih'
        | false =>
          by_cases h4 : (Y.f2.size : Int) > 40
          · rw [bad (by simp [noteB, h1, h2, h3]; omega)]
            simp only [Bool.false_eq_true, if_false, if_pos h4]
            exact Ev.now _
          · rw [good (by simp [noteB, h1, h2, h3]; omega)]
            simpa only [Bool.false_eq_true, if_false, if_neg h4] using ih'
    · rw [bad (by simp [noteB, h1])]
      exact Ev.step (f := fun _ => some (([] : List S66), K)) (fun k => by simp only [spec_NotesOf.l0, e3, e4]; rw [if_pos (by omega), if_pos (by omega), if_pos (by omega), if_neg h1]) (Ev.now _)
theorem hasPrefix_quay (s : ByteArray) : strings_HasPrefix.f s (⟨#[113, 117, 97, 121, 47]⟩ : ByteArray) = some (quayB s) := by
  unfold strings_HasPrefix.f stringslite_HasPrefix.f quayB
  have e : ((⟨#[113, 117, 97, 121, 47]⟩ : ByteArray).size : Int) = 5 := rfl
  have e2 : (⟨#[113, 117, 97, 121, 47]⟩ : ByteArray).toList = ([113, 117, 97, 121, 47] : List UInt8) := by rw [Lib.toList_data]
  rw [e, e2]
  by_cases h : (s.size : Int) ≥ 5
  · rw [if_pos h, if_pos h, if_pos (by decide), if_pos (by omega)]; rfl
  · rw [if_neg h, if_neg h]; rfl
theorem plain_empty (K : ByteArray) (h : K.toList = []) : plainOk K = false := by
  have hz : (⟨#[]⟩ : ByteArray).toList = [] := Lib.toList_data ⟨#[]⟩
  obtain rfl : K = ⟨#[]⟩ := tlb.1 (h.trans hz.symm)
  rfl
theorem implNotes_loop (x : S33) (hk : ∀ y ∈ x.f3, y.size ≤ 1048576) (hl : x.f3.length = x.f4.length) (h3 : x.f3.length ≤ 1099511627776)
    (hg : ∀ (i : Nat), i < x.f3.length → impl_Get.f x.f0 x.f1 x.f2 x.f3 x.f4 (x.f3.getD i ByteArray.empty) = some ((x.f4.getD i z33).f0, (x.f4.getD i z33).f1, (x.f4.getD i z33).f2, (x.f4.getD i z33).f3, (x.f4.getD i z33).f4, true)) :
    ∀ d i out, i + d = x.f3.length → out.length ≤ i → Ev (fun k => impl_NotesOf.l0 k out x.f3 (x.f3.length : Int) (i : Int) x.f0 x.f1 x.f2 x.f3 x.f4) (notesG x d i out) := by
  intro d
  induction d with
  | zero =>
    intro i out hi ho
    exact Ev.step (f := fun _ => some (out, (⟨#[]⟩ : ByteArray))) (fun k => by simp only [impl_NotesOf.l0]; rw [if_neg (by omega)]) (Ev.now _)
  | succ d ih =>
    intro i out hi ho
    have hm : x.f3.getD i ByteArray.empty ∈ x.f3 := by
      rw [List.getD_eq_getElem?_getD, List.getElem?_eq_getElem (by omega)]
      exact List.getElem_mem _
    have hs := hk _ hm
    have ih' := ih (i + 1) (out ++ [⟨x.f3.getD i ByteArray.empty, (x.f4.getD i z33).f2⟩]) (by omega) (by simp; omega)
    have e3 : rdOf ByteArray.empty x.f3 (i : Int) = x.f3.getD i ByteArray.empty := rfl
    have hgi := hg i (by omega)
    have hp : Ev (fun k => impl_PlainOk.f k (x.f3.getD i ByteArray.empty)) (plainOk (x.f3.getD i ByteArray.empty)) := Ev.past (fun k hk => impl_plainOk _ (by omega) k hk)
    have bad : noteB (x.f3.getD i ByteArray.empty) (x.f4.getD i z33) = false → notesG x (d + 1) i out = ([], x.f3.getD i ByteArray.empty) := fun h => by
      simp only [notesG, h, Bool.false_eq_true, if_false]
    have good : noteB (x.f3.getD i ByteArray.empty) (x.f4.getD i z33) = true → notesG x (d + 1) i out = notesG x d (i + 1) (out ++ [⟨x.f3.getD i ByteArray.empty, (x.f4.getD i z33).f2⟩]) := fun h => by
      simp only [notesG, h, if_true]
    generalize hK : x.f3.getD i ByteArray.empty = K at *
    generalize hY : x.f4.getD i z33 = Y at *
    have hz : (⟨#[]⟩ : ByteArray).toList = [] := Lib.toList_data ⟨#[]⟩
    by_cases h0 : K.toList = []
    · rw [bad (by simp [noteB, plain_empty K h0])]
      obtain rfl : K = ⟨#[]⟩ := tlb.1 (h0.trans hz.symm)
      exact Ev.step (f := fun _ => some (([] : List S66), (⟨#[]⟩ : ByteArray))) (fun k => by simp only [impl_NotesOf.l0, e3, hgi, Option.bind_some]; rw [if_pos (by omega), if_pos (by omega), if_pos (by omega), if_pos h0]) (Ev.now _)
    by_cases h1 : Y.f0 = 3
    · refine Ev.step (f := fun k => (impl_PlainOk.f k K).bind fun t439 => (if t439 = true then ((strings_HasPrefix.f K (⟨#[113, 117, 97, 121, 47]⟩ : ByteArray)).bind fun t440 => (if t440 = true then (if out.length < 4398046511104 then (impl_NotesOf.l0 k (out ++ [(⟨K, Y.f2⟩ : S66)]) x.f3 (x.f3.length : Int) (wrap64 ((i : Int) + 1)) x.f0 x.f1 x.f2 x.f3 x.f4) else (none)) else (if (Y.f2.size : Int) > 40 then (some (([] : List S66), K)) else (if out.length < 4398046511104 then (impl_NotesOf.l0 k (out ++ [(⟨K, Y.f2⟩ : S66)]) x.f3 (x.f3.length : Int) (wrap64 ((i : Int) + 1)) x.f0 x.f1 x.f2 x.f3 x.f4) else (none))))) else (some (([] : List S66), K)))) (fun k => by simp only [impl_NotesOf.l0, e3, hgi, Option.bind_some]; rw [if_pos (by omega), if_pos (by omega), if_pos (by omega), if_neg h0, if_pos h1]) ?_
      refine Ev.bind hp ?_
      cases h2 : plainOk K with
      | false =>
        rw [bad (by simp [noteB, h2])]
        exact Ev.now _
      | true =>
        simp only [hasPrefix_quay, Option.bind_some, if_true, wsucc (show i ≤ 140737488351232 by omega), if_pos (show out.length < 4398046511104 by omega)]
        cases h3 : quayB K with
        | true =>
          rw [good (by simp [noteB, h1, h2, h3])]
          simpa only [if_true] using ih'
        | false =>
          by_cases h4 : (Y.f2.size : Int) > 40
          · rw [bad (by simp [noteB, h1, h2, h3]; omega)]
            simp only [Bool.false_eq_true, if_false, if_pos h4]
            exact Ev.now _
          · rw [good (by simp [noteB, h1, h2, h3]; omega)]
            simpa only [Bool.false_eq_true, if_false, if_neg h4] using ih'
    · rw [bad (by simp [noteB, h1])]
      exact Ev.step (f := fun _ => some (([] : List S66), K)) (fun k => by simp only [impl_NotesOf.l0, e3, hgi, Option.bind_some]; rw [if_pos (by omega), if_pos (by omega), if_pos (by omega), if_neg h0, if_neg h1]) (Ev.now _)
theorem first_at {l : List ByteArray} (h : keysOk l = true) (i : Nat) (hi : i < l.length) : FirstAt l (l.getD i ByteArray.empty) i := by
  refine ⟨hi, rfl, fun j hj he => ?_⟩
  rw [List.getD_eq_getElem?_getD, List.getD_eq_getElem?_getD, List.getElem?_eq_getElem (by omega), List.getElem?_eq_getElem hi] at he
  simp only [Option.getD_some] at he
  obtain ⟨d, rfl⟩ : ∃ d, i = j + d + 1 := ⟨i - j - 1, by omega⟩
  have hlt := keys_lt h d j hi
  rw [he] at hlt
  exact absurd hlt (List.lt_irrefl _)
theorem getK_at (x : S33) (h5 : x.f0 = 5) (hl : x.f3.length = x.f4.length) (hk : keysOk x.f3 = true) (i : Nat) (hi : i < x.f3.length) : getK x (x.f3.getD i ByteArray.empty) = some (x.f4.getD i z33) := by
  unfold getK
  rw [if_pos h5, kAt_eq (first_at hk i hi), Option.bind_some, List.getD_eq_getElem?_getD, List.getElem?_eq_getElem (by omega)]
  rfl
theorem size_key {x : S33} (ht : totK x ≤ 1048576) : ∀ y ∈ x.f3, y.size ≤ 1048576 := fun y hy => by
  have h1 := totK_eq x
  have key : ∀ l : List ByteArray, y ∈ l → y.size ≤ (l.map ByteArray.size).sum := by
    intro l
    induction l with
    | nil => intro h; cases h
    | cons a l ih =>
      intro h
      rw [List.map_cons, List.sum_cons]
      rcases List.mem_cons.1 h with rfl | h
      · omega
      · have := ih h; omega
  have h2 := key x.f3 hy
  omega
theorem spec_notes_ev (x : S33) (hc : cntTop x ≤ 1099511627776) (ht : totK x ≤ 1048576) : Ev (fun k => spec_NotesOf.f k x.f0 x.f1 x.f2 x.f3 x.f4) (notesE x) := by
  have h3 : x.f3.length ≤ 1099511627776 := by unfold cntTop at hc; omega
  have none0 : Ev (fun k => spec_NotesOf.j0 k [] true x.f0 x.f1 x.f2 x.f3 x.f4) (([] : List S66), (⟨#[46]⟩ : ByteArray)) :=
    Ev.step (f := fun _ => some (([] : List S66), (⟨#[46]⟩ : ByteArray))) (fun k => by simp only [spec_NotesOf.j0]; rw [if_pos trivial]) (Ev.now _)
  unfold spec_NotesOf.f notesE
  simp only [Option.bind_some]
  by_cases h5 : x.f0 = 5
  · simp only [h5, if_true, true_and]
    rw [← h5]
    refine Ev.bind (spec_treeOk_ev x ht) ?_
    by_cases hok : treeOkK x = true
    · have hnode : nodeB x = true := by
        have := hok
        unfold treeOkK at this
        rw [rightK_eq] at this
        simp only [Bool.and_eq_true] at this
        exact this.2.1
      unfold nodeB at hnode
      rw [if_neg (by omega), if_pos h5] at hnode
      simp only [Bool.and_eq_true, decide_eq_true_eq] at hnode
      rw [if_pos hok, hok]
      exact Ev.step (f := fun k => spec_NotesOf.l0 k [] ((0 : Nat) : Int) x.f0 x.f1 x.f2 x.f3 x.f4) (fun k => by simp only [spec_NotesOf.j0]; rw [if_neg (by simp)]; rfl) (specNotes_loop x (size_key ht) hnode.1 h3 x.f3.length 0 [] (by omega) (by simp))
    · rw [if_neg hok, Bool.eq_false_iff.2 hok]
      exact none0
  · rw [if_neg (fun h => h5 h.1)]
    exact Ev.congr (fun k => if_neg h5) none0
theorem impl_notes_ev (x : S33) (hc : cntTop x ≤ 1099511627776) (ht : totK x ≤ 1048576) : Ev (fun k => impl_NotesOf.f k x.f0 x.f1 x.f2 x.f3 x.f4) (notesE x) := by
  have h3 : x.f3.length ≤ 1099511627776 := by unfold cntTop at hc; omega
  have hl4 : x.f4.length ≤ 1099511627776 := by have := len_cnt x.f4; unfold cntTop at hc; omega
  have none0 : Ev (fun k => impl_NotesOf.j0 k true x.f0 x.f1 x.f2 x.f3 x.f4) (([] : List S66), (⟨#[46]⟩ : ByteArray)) :=
    Ev.step (f := fun _ => some (([] : List S66), (⟨#[46]⟩ : ByteArray))) (fun k => by simp only [impl_NotesOf.j0]; rw [if_pos trivial]) (Ev.now _)
  unfold impl_NotesOf.f notesE
  by_cases h5 : x.f0 = 5
  · refine Ev.congr (fun k => if_pos h5) (Ev.bind (impl_treeOk_ev x ht) ?_)
    by_cases hok : treeOkK x = true
    · have hnode : nodeB x = true := by
        have := hok
        unfold treeOkK at this
        rw [rightK_eq] at this
        simp only [Bool.and_eq_true] at this
        exact this.2.1
      unfold nodeB at hnode
      rw [if_neg (by omega), if_pos h5] at hnode
      simp only [Bool.and_eq_true, decide_eq_true_eq] at hnode
      have hks : keysL x = x.f3 := by
        unfold keysL
        rw [← hnode.1, Nat.min_self, List.take_of_length_le (Nat.le_refl _)]
      have hko : impl_keysOf.f x.f0 x.f1 x.f2 x.f3 x.f4 = some x.f3 := by
        unfold impl_keysOf.f
        rw [node_eta, hks]
        exact if_pos ⟨asc_keys hnode.2.1, h3, hl4⟩
      have hget : ∀ (i : Nat), i < x.f3.length → impl_Get.f x.f0 x.f1 x.f2 x.f3 x.f4 (x.f3.getD i ByteArray.empty) = some ((x.f4.getD i z33).f0, (x.f4.getD i z33).f1, (x.f4.getD i z33).f2, (x.f4.getD i z33).f3, (x.f4.getD i z33).f4, true) := fun i hi => by
        have hK := getK_at x h5 hnode.1 hnode.2.1 i hi
        have hV : getV x (x.f3.getD i ByteArray.empty) = x.f4.getD i z33 := by unfold getV; rw [hK]; rfl
        unfold impl_Get.f
        rw [node_eta, if_pos hc, hK, hV]
        rfl
      rw [if_pos ⟨h5, hok⟩, hok]
      exact Ev.step (f := fun k => impl_NotesOf.l0 k [] x.f3 (x.f3.length : Int) ((0 : Nat) : Int) x.f0 x.f1 x.f2 x.f3 x.f4) (fun k => by simp only [impl_NotesOf.j0]; rw [if_neg (by simp), hko]; rfl) (implNotes_loop x (size_key ht) hnode.1 h3 hget x.f3.length 0 [] (by omega) (by simp))
    · rw [if_neg (fun h => hok h.2), Bool.eq_false_iff.2 hok]
      exact none0
  · rw [if_neg (fun h => h5 h.1)]
    exact Ev.congr (fun k => if_neg h5) none0
end Go.Proofs.Ytdlhidjphaaklaa.H
