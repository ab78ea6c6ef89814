/- Unset: a copy without a Key. -/
import Derived.Test.YtnbnpgjgibcmpaaAid
import Derived.Test.YtnbnpgjgibcmpaaCopy
import Derived.Test.YtnbnpgjgibcmpaaDelete
import Derived.Test.YtnbnpgjgibcmpaaGet
import Derived.Test.YtnbnpgjgibcmpaaLaw
import Derived.Test.YtnbnpgjgibcmpaaListOf
import Derived.Test.YtnbnpgjgibcmpaaLists
import Derived.Test.YtnbnpgjgibcmpaaMark
import Derived.Test.YtnbnpgjgibcmpaaOwn
import Derived.Test.YtnbnpgjgibcmpaaP_impl_isMap
namespace Go.Proofs.Ytnbnpgjgibcmpaa.H
open Go.RowKit Go.Proofs.Ytnbnpgjgibcmpaa.P Go.Proofs.YtnbnpgjgibcmpaaW.PrintWords Go.Proofs.Ytnbnpgjgibcmpaa.M
set_option linter.unusedVariables false
set_option linter.unusedSimpArgs false

theorem isMap_calls (x : S25) {w : World} {v3 v4 : Value} (h : Seen w v3 v4 x) (b : Bool) (hb : b = (decide (x.f0 = 5) && decide (x.f3.length = x.f4.length))) :
    Calls Try.prog 96 #[.agg #[.int .i64 x.f0, .int .i64 x.f1, .string x.f2, v3, v4]] w fun e w' => e = .returned (.bool b) ∧ Below w.heap.size w w' := by
  obtain ⟨A3, c3, A4, c4, rfl, rfl, g3, l3, g4, l4⟩ := h
  refine impl_isMap.calls _ _ _ _ _ _ _ _ _ b w g3 l3 g4 l4 ?_
  unfold impl_isMap.f
  rw [hb]
  by_cases h5 : x.f0 = 5
  · rw [if_pos h5, decide_eq_true h5, Bool.true_and]
    by_cases h6 : x.f3.length = x.f4.length
    · rw [decide_eq_true h6, h6]; simp
    · rw [decide_eq_false h6]
      have : ¬ (x.f3.length : Int) = (x.f4.length : Int) := fun e => h6 (by omega)
      simp [this]
  · rw [if_neg h5, decide_eq_false h5, Bool.false_and]
theorem own_form {w : World} {b e s n : Nat} {v : Value} {xs : List Value} (h : w.ownsRow b e s v n xs) (hn : 0 < n) : ∃ g cap, v = .slice (some ⟨g, 0, none⟩) n cap := by
  rcases h.2 with ⟨_, h0⟩ | ⟨g, cap, cur, hv, _⟩
  · omega
  · exact ⟨g, cap, hv⟩
/-- A text less. -/
theorem delS_row (g cap i : Nat) (ks : List ByteArray) (w : World) (h : SRow w (.slice (some ⟨g, 0, none⟩) ks.length cap) ks) (hi : i < ks.length) (hn : ks.length ≤ 1099511627776) :
    Calls Try.prog 97 #[.slice (some ⟨g, 0, none⟩) ks.length cap, .int .i64 i, .int .i64 ((i : Int) + 1)] w fun e w' => e = .returned (.slice (some ⟨g, 0, none⟩) (ks.eraseIdx i).length cap) ∧ SRow w' (.slice (some ⟨g, 0, none⟩) (ks.eraseIdx i).length cap) (ks.eraseIdx i) ∧ Chg (fun k => k = g) w w' := by
  have e1 : (ks.eraseIdx i).length = ks.length - 1 := List.length_eraseIdx_of_lt hi
  have e2 : (ks.eraseIdx i).map Value.string = (ks.map Value.string).take i ++ (ks.map Value.string).drop (i + 1) := by rw [List.eraseIdx_eq_take_drop_succ, List.map_append, List.map_take, List.map_drop]
  refine (delS_calls 0 g ks.length cap i (ks.map Value.string) w h hi hn (fun u hu => by
    obtain ⟨x, _, rfl⟩ := List.mem_map.1 hu
    rfl)).mono fun e w' ⟨he, ho, hc⟩ => ⟨by rw [e1]; exact he, ?_, hc⟩
  unfold SRow
  rw [e1, e2]
  exact ho
theorem row_one {w : World} {v : Value} {kids : List S25} {fss : List (List Nat)} {inner : List Value} (h3 : w.ownsRow 0 25 5 v kids.length inner) (h4 : fss.length = kids.length) (h5 : ∀ i (h : i < kids.length) f, fss[i]? = some f → OT w kids[i] ((inner.drop (i * 5)).take 5) f) : ∀ u ∈ inner, u.oneCell' = true := by
  intro u hu
  obtain ⟨t, ht, rfl⟩ := List.getElem_of_mem hu
  have hl : inner.length = kids.length * 5 := h3.1
  have hq : t / 5 < kids.length := by omega
  have ho := h5 (t / 5) hq _ (List.getElem?_eq_getElem (by omega))
  rw [OT_iff] at ho
  obtain ⟨v3, v4, gss, e, h6, h7, _⟩ := ho
  obtain ⟨B3, d3, rfl, _, _⟩ := SRow_C h6
  obtain ⟨B4, d4, rfl, _, _⟩ := ORow_C h7
  have hm : inner[t] ∈ (inner.drop (t / 5 * 5)).take 5 := by
    refine List.mem_iff_getElem?.2 ⟨t % 5, ?_⟩
    rw [List.getElem?_take, if_pos (by omega), List.getElem?_drop, show t / 5 * 5 + t % 5 = t by omega]
    exact List.getElem?_eq_getElem ht
  rw [e] at hm
  simp at hm
  rcases hm with e | e | e | e | e <;> rw [e] <;> rfl
/-- A tree less. -/
theorem delN_row (g cap i : Nat) (kids : List S25) (fss : List (List Nat)) (w : World) (h : ORow w (.slice (some ⟨g, 0, none⟩) kids.length cap) kids fss) (hd : ∀ k ∈ fss.flatten, ¬ k = g) (hi : i < kids.length) (hn : kids.length ≤ 1099511627776) :
    Calls Try.prog 98 #[.slice (some ⟨g, 0, none⟩) kids.length cap, .int .i64 i, .int .i64 ((i : Int) + 1)] w fun e w' => e = .returned (.slice (some ⟨g, 0, none⟩) (kids.eraseIdx i).length cap) ∧ ORow w' (.slice (some ⟨g, 0, none⟩) (kids.eraseIdx i).length cap) (kids.eraseIdx i) (fss.eraseIdx i) ∧ Chg (fun k => k = g) w w' := by
  obtain ⟨inner, h3, h4, h5⟩ := h
  have e1 : (kids.eraseIdx i).length = kids.length - 1 := List.length_eraseIdx_of_lt hi
  have hl : inner.length = kids.length * 5 := h3.1
  refine (delN_calls 0 g kids.length cap i inner w h3 hi hn (row_one h3 h4 h5)).mono fun e w' ⟨he, ho, hc⟩ => ⟨by rw [e1]; exact he, ⟨_, by rw [e1]; exact ho, by rw [e1, List.length_eraseIdx_of_lt (by omega), h4], fun j hj f hf => ?_⟩, hc⟩
  rcases Nat.lt_or_ge j i with hji | hji
  · rw [List.getElem?_eraseIdx_of_lt hji] at hf
    rw [List.getElem_eraseIdx_of_lt _ hji]
    have e3 : ((inner.take (i * 5) ++ inner.drop (i * 5 + 5)).drop (j * 5)).take 5 = (inner.drop (j * 5)).take 5 := by
      rw [List.drop_append_of_le_length (by rw [List.length_take]; omega), List.take_append_of_le_length (by rw [List.length_drop, List.length_take]; omega), List.drop_take, List.take_take, Nat.min_eq_left (by omega)]
    rw [e3]
    exact OT_chg hc _ _ _ (h5 j (by omega) f hf) (fun k hk => hd k (mem_flat hf hk))
  · rw [List.getElem?_eraseIdx_of_ge hji] at hf
    rw [List.getElem_eraseIdx_of_ge _ hji]
    have e3 : ((inner.take (i * 5) ++ inner.drop (i * 5 + 5)).drop (j * 5)).take 5 = (inner.drop ((j + 1) * 5)).take 5 := by
      rw [List.drop_append, List.drop_of_length_le (by rw [List.length_take]; omega), List.nil_append, List.drop_drop, List.length_take, Nat.min_eq_left (by omega), show i * 5 + 5 + (j * 5 - i * 5) = (j + 1) * 5 by omega]
    rw [e3]
    exact OT_chg hc _ _ _ (h5 (j + 1) (by omega) f hf) (fun k hk => hd k (mem_flat hf hk))
/-- What Unset leaves. -/
noncomputable def unsetV (x : S25) (key : ByteArray) : S25 := if x.f0 = 5 ∧ x.f3.length = x.f4.length then (match kAt x.f3 key with | some i => ⟨x.f0, x.f1, x.f2, x.f3.eraseIdx i, x.f4.eraseIdx i⟩ | none => x) else x
end Go.Proofs.Ytnbnpgjgibcmpaa.H
