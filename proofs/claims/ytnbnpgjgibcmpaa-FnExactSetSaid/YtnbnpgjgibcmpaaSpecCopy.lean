/- The reference's copies are what they are copies of. -/
import Derived.Test.YtnbnpgjgibcmpaaAid
import Derived.Test.YtnbnpgjgibcmpaaCopy
import Derived.Test.YtnbnpgjgibcmpaaEv
import Derived.Test.YtnbnpgjgibcmpaaHeld
import Derived.Test.YtnbnpgjgibcmpaaLaw
import Derived.Test.YtnbnpgjgibcmpaaLists
import Derived.Test.YtnbnpgjgibcmpaaMark
import Derived.Test.YtnbnpgjgibcmpaaOwn
import Derived.Test.YtnbnpgjgibcmpaaP_spec_ListOf
import Derived.Test.YtnbnpgjgibcmpaaP_spec_l3Copy
namespace Go.Proofs.Ytnbnpgjgibcmpaa.H
open Go.RowKit Go.Proofs.Ytnbnpgjgibcmpaa.P Go.Proofs.YtnbnpgjgibcmpaaW.PrintWords Go.Proofs.Ytnbnpgjgibcmpaa.M
set_option linter.unusedVariables false

theorem node_eta (a : S25) : (⟨a.f0, a.f1, a.f2, a.f3, a.f4⟩ : S25) = a := by cases a; rfl
theorem take_snoc {α : Type} (xs : List α) {i : Nat} (hi : i < xs.length) : xs.take i ++ [xs[i]] = xs.take (i + 1) := by rw [List.take_add_one, List.getElem?_eq_getElem hi]; rfl
theorem l3Copy_ev (a : S25) : cntTop a ≤ 1099511627776 → Ev (fun k => spec_l3Copy.f k a.f0 a.f1 a.f2 a.f3 a.f4) (a.f0, a.f1, a.f2, a.f3, a.f4) := by
  refine tree_ind (P := fun a => cntTop a ≤ 1099511627776 → Ev (fun k => spec_l3Copy.f k a.f0 a.f1 a.f2 a.f3 a.f4) (a.f0, a.f1, a.f2, a.f3, a.f4)) (fun a ih hc => ?_) a
  have hl := len_cnt a.f4
  unfold cntTop at hc
  refine Ev.step (f := fun k => spec_l3Copy.l0 k 0 a.f0 a.f1 a.f2 a.f3 a.f4 a.f0 a.f1 a.f2 a.f3 ([] : List S25)) (fun k => ?_) ?_
  · simp only [spec_l3Copy.f]
    rw [Option.bind_some, if_pos (by rw [List.length_nil]; omega), List.nil_append]
  have := ev_loop (n := a.f4.length) (l0 := fun k (s : List S25) i => spec_l3Copy.l0 k i a.f0 a.f1 a.f2 a.f3 a.f4 a.f0 a.f1 a.f2 a.f3 s) (S := fun i => a.f4.take i) (r := (a.f0, a.f1, a.f2, a.f3, a.f4)) ?_ ?_
  · simpa using this
  · refine Ev.step (f := fun _ => some (a.f0, a.f1, a.f2, a.f3, a.f4)) (fun k => ?_) (Ev.now _)
    simp only [spec_l3Copy.l0]
    rw [if_neg (by omega), List.take_of_length_le (Nat.le_refl _)]
  · intro i hi ihl
    have er : rd_T25 a.f4 (i : Int) = a.f4[i] := rdT2 a.f4 i hi
    have hlt : (a.f4.take i).length < 1759218604441 := by rw [List.length_take]; omega
    refine Ev.step (f := fun k => (spec_l3Copy.f k a.f4[i].f0 a.f4[i].f1 a.f4[i].f2 a.f4[i].f3 a.f4[i].f4).bind fun bt417 => (if (a.f4.take i).length < 1759218604441 then (spec_l3Copy.l0 k (wrap64 ((i : Int) + 1)) a.f0 a.f1 a.f2 a.f3 a.f4 a.f0 a.f1 a.f2 a.f3 (a.f4.take i ++ [(⟨bt417.1, bt417.2.1, bt417.2.2.1, bt417.2.2.2.1, bt417.2.2.2.2⟩ : S25)])) else (none))) (fun k => ?_) ?_
    · simp only [spec_l3Copy.l0]
      rw [if_pos (by omega), if_pos (by omega), er]
    · have hcn : cntTop a.f4[i] ≤ 1099511627776 := by
        have h1 := mem_le_sum cntK a.f4 a.f4[i] (List.getElem_mem hi)
        have h2 := cntK_eq a.f4[i]
        unfold cntTop
        omega
      refine Ev.bind (ih a.f4[i] (List.getElem_mem hi) hcn) ?_
      refine Ev.congr (fun k => if_pos hlt) ?_
      rw [wsucc (by omega)]
      have e : a.f4.take i ++ [(⟨a.f4[i].f0, a.f4[i].f1, a.f4[i].f2, a.f4[i].f3, a.f4[i].f4⟩ : S25)] = a.f4.take (i + 1) := by rw [node_eta]; exact take_snoc a.f4 hi
      simp only [e]
      exact ihl
theorem specListOf_ev (l : List S25) (hc : (l.map cntK).sum ≤ 1099511627776) : Ev (fun k => spec_ListOf.f k l) (4, 0, ⟨#[]⟩, [], l) := by
  have hl := len_cnt l
  unfold spec_ListOf.f
  have := ev_loop (n := l.length) (l0 := fun k (s : List S25) i => spec_ListOf.l0 k l i 4 0 ⟨#[]⟩ s) (S := fun i => l.take i) (r := (4, 0, ⟨#[]⟩, [], l)) ?_ ?_
  · simpa using this
  · refine Ev.step (f := fun _ => some (4, 0, ⟨#[]⟩, [], l)) (fun k => ?_) (Ev.now _)
    simp only [spec_ListOf.l0]
    rw [if_neg (by omega), List.take_of_length_le (Nat.le_refl _)]
  · intro i hi ihl
    have er : rd_T25 l (i : Int) = l[i] := rdT2 l i hi
    have hlt : (l.take i).length < 1759218604441 := by rw [List.length_take]; omega
    refine Ev.step (f := fun k => (spec_l3Copy.f k l[i].f0 l[i].f1 l[i].f2 l[i].f3 l[i].f4).bind fun bt654 => (if (l.take i).length < 1759218604441 then (spec_ListOf.l0 k l (wrap64 ((i : Int) + 1)) 4 0 ⟨#[]⟩ (l.take i ++ [(⟨bt654.1, bt654.2.1, bt654.2.2.1, bt654.2.2.2.1, bt654.2.2.2.2⟩ : S25)])) else (none))) (fun k => ?_) ?_
    · simp only [spec_ListOf.l0]
      rw [if_pos (by omega), if_pos (by omega), er]
    · have hcn : cntTop l[i] ≤ 1099511627776 := by
        have h1 := mem_le_sum cntK l l[i] (List.getElem_mem hi)
        have h2 := cntK_eq l[i]
        unfold cntTop
        omega
      refine Ev.bind (l3Copy_ev l[i] hcn) ?_
      refine Ev.congr (fun k => if_pos hlt) ?_
      rw [wsucc (by omega)]
      have e : l.take i ++ [(⟨l[i].f0, l[i].f1, l[i].f2, l[i].f3, l[i].f4⟩ : S25)] = l.take (i + 1) := by rw [node_eta]; exact take_snoc l hi
      simp only [e]
      exact ihl
theorem specListOf_calls (l : List S25) (hs : (l.map cntK).sum ≤ 1099511627776) {A : Option Addr} {c : Nat} {w : World} (hr : k25.C w A l.length l) (hc : l.length ≤ c) :
    Calls Try.prog 38 #[.slice A l.length c] w fun e w' => ∃ v3 v4, e = .returned (.agg #[.int .i64 4, .int .i64 0, .string ⟨#[]⟩, v3, v4]) ∧ Seen w' v3 v4 ⟨4, 0, ⟨#[]⟩, [], l⟩ ∧ Below w.heap.size w w' := by
  obtain ⟨k, hk⟩ := (specListOf_ev l hs).rounds
  exact (spec_ListOf.calls k _ _ _ _ _ _ _ _ w hr hc hk).mono fun e w' ⟨v3, v4, he, h3, h4, hb⟩ => ⟨v3, v4, he, Seen.of_R 4 0 ⟨#[]⟩ h3 h4, hb⟩
end Go.Proofs.Ytnbnpgjgibcmpaa.H
