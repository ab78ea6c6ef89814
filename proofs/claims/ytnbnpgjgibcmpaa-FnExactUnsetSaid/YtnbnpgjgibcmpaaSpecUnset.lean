/- The reference's Unset leaves what the program's leaves. -/
import Derived.Test.YtnbnpgjgibcmpaaAid
import Derived.Test.YtnbnpgjgibcmpaaCopy
import Derived.Test.YtnbnpgjgibcmpaaDelete
import Derived.Test.YtnbnpgjgibcmpaaEv
import Derived.Test.YtnbnpgjgibcmpaaGet
import Derived.Test.YtnbnpgjgibcmpaaHeld
import Derived.Test.YtnbnpgjgibcmpaaLaw
import Derived.Test.YtnbnpgjgibcmpaaListOf
import Derived.Test.YtnbnpgjgibcmpaaLists
import Derived.Test.YtnbnpgjgibcmpaaMark
import Derived.Test.YtnbnpgjgibcmpaaOwn
import Derived.Test.YtnbnpgjgibcmpaaP_spec_Unset
import Derived.Test.YtnbnpgjgibcmpaaSpecCopy
import Derived.Test.YtnbnpgjgibcmpaaSpecGet
import Derived.Test.YtnbnpgjgibcmpaaUnset
import Derived.Test.YtnbnpgjgibcmpaaUnsetW
namespace Go.Proofs.Ytnbnpgjgibcmpaa.H
open Go.RowKit Go.Proofs.Ytnbnpgjgibcmpaa.P Go.Proofs.YtnbnpgjgibcmpaaW.PrintWords Go.Proofs.Ytnbnpgjgibcmpaa.M
set_option linter.unusedVariables false

theorem specUnset_ev (x : S25) (key : ByteArray) (hc : cntTop x ≤ 1099511627776) : Ev (fun k => spec_Unset.f k x.f0 x.f1 x.f2 x.f3 x.f4 key) ((unsetV x key).f0, (unsetV x key).f1, (unsetV x key).f2, (unsetV x key).f3, (unsetV x key).f4) := by
  have h3 : x.f3.length ≤ 1099511627776 := by unfold cntTop at hc; omega
  have hl := len_cnt x.f4
  have h4 : x.f4.length ≤ 1099511627776 := by unfold cntTop at hc; omega
  unfold spec_Unset.f
  refine Ev.bind (l3Copy_ev x hc) (Ev.bind (l3At_ev x key h3) ?_)
  rcases atI_get x key with ⟨e1, e2⟩ | ⟨i, hi, hi3, e1, e2, e3, e5⟩
  · have hv : unsetV x key = x := by
      unfold unsetV
      split
      · rename_i hm
        cases hq : kAt x.f3 key with
        | none => rfl
        | some j =>
          exfalso
          unfold getK at e2
          rw [if_pos hm.1, hq, Option.bind_some, List.getElem?_eq_getElem (by have := (kAt_some hq).1; omega)] at e2
          cases e2
      · rfl
    rw [e1, hv]
    exact Ev.congr (fun k => if_pos (by decide)) (Ev.now _)
  · rw [e1]
    refine Ev.congr (fun k => if_neg (by omega)) ?_
    by_cases hm : x.f3.length = x.f4.length
    · have hv : unsetV x key = ⟨x.f0, x.f1, x.f2, x.f3.eraseIdx i, x.f4.eraseIdx i⟩ := by
        unfold unsetV
        rw [if_pos ⟨e5, hm⟩, e3]
      have hw : wrap64 ((i : Int) + 1) = ((i + 1 : Nat) : Int) := wsucc (by omega)
      rw [hv]
      refine Ev.congr (f := fun _ => some (x.f0, x.f1, x.f2, x.f3.eraseIdx i, x.f4.eraseIdx i)) (fun k => ?_) (Ev.now _)
      simp only [Option.bind_some, hw, Int.toNat_natCast, List.nil_append, List.length_nil]
      rw [if_pos (by omega), if_pos (by omega), if_pos (by omega), if_pos (by rw [List.length_take]; omega), if_pos (by omega), if_pos (by omega), if_pos (by rw [List.length_take, List.length_drop]; omega), if_pos (by omega), if_pos (by rw [List.length_take]; omega), if_pos (by omega), if_pos (by rw [List.length_take, List.length_drop]; omega), List.eraseIdx_eq_take_drop_succ, List.eraseIdx_eq_take_drop_succ]
    · have hv : unsetV x key = x := by
        unfold unsetV
        rw [if_neg (fun h => hm h.2)]
      rw [hv]
      exact Ev.congr (fun k => if_neg (by omega)) (Ev.now _)
theorem specUnset_calls (x : S25) (key : ByteArray) (hs : cntTop x ≤ 1099511627776) (w : World) (v3 v4 : Value) (hr : Seen w v3 v4 x) :
    Calls Try.prog 47 #[.agg #[.int .i64 x.f0, .int .i64 x.f1, .string x.f2, v3, v4], .string key] w fun e w' => ∃ u3 u4, e = .returned (.agg #[.int .i64 (unsetV x key).f0, .int .i64 (unsetV x key).f1, .string (unsetV x key).f2, u3, u4]) ∧ Seen w' u3 u4 (unsetV x key) ∧ Below w.heap.size w w' := by
  obtain ⟨A3, c3, A4, c4, rfl, rfl, g3, l3, g4, l4⟩ := hr
  obtain ⟨k, hk⟩ := (specUnset_ev x key hs).rounds
  refine (spec_Unset.calls k _ _ _ _ _ _ _ _ _ _ _ _ _ _ _ w g3 l3 g4 l4 hk).mono fun e w' ⟨v3, v4, he, h3, h4, hb⟩ => ⟨v3, v4, he, ?_, hb⟩
  obtain ⟨A3, c3, e3, l3, g3⟩ := Kd.R_reads h3
  obtain ⟨A4, c4, rfl⟩ := Kd.N_slice h4
  obtain ⟨_, l4, g4⟩ := Kd.N_reads' h4
  exact ⟨A3, c3, A4, c4, e3, rfl, g3, l3, g4, l4⟩
theorem unsetS_calls (x : S25) (key : ByteArray) (hc : cntTop x ≤ 1099511627776) (w : World) (v3 v4 : Value) (h : Seen w v3 v4 x) :
    Calls Try.prog 48 #[.agg #[.int .i64 x.f0, .int .i64 x.f1, .string x.f2, v3, v4], .string key] w fun e w' => Made w (unsetV x key) e w' := by
  obtain ⟨A3, c3, A4, c4, rfl, rfl, g3, l3, g4, l4⟩ := h
  exact unset_calls x key hc A3 A4 c3 c4 w g3 l3 g4 l4
theorem sum_erase (l : List Nat) (i : Nat) : (l.eraseIdx i).sum ≤ l.sum := by
  induction l generalizing i with
  | nil => simp
  | cons a l ih =>
    cases i with
    | zero => simp
    | succ i => simp; exact ih i
theorem map_erase {α β : Type} (f : α → β) (l : List α) (i : Nat) : (l.map f).eraseIdx i = (l.eraseIdx i).map f := by
  rw [List.eraseIdx_eq_take_drop_succ, List.eraseIdx_eq_take_drop_succ, List.map_append, List.map_take, List.map_drop]
theorem cnt_unsetV (x : S25) (key : ByteArray) : cntTop (unsetV x key) ≤ cntTop x := by
  unfold unsetV
  split
  · split
    · rename_i i _
      unfold cntTop
      have h1 : (x.f3.eraseIdx i).length ≤ x.f3.length := List.length_eraseIdx_le _ _
      have h2 := sum_erase (x.f4.map cntK) i
      rw [map_erase] at h2
      simp only
      omega
    · exact Nat.le_refl _
  · exact Nat.le_refl _
end Go.Proofs.Ytnbnpgjgibcmpaa.H
