/- Keys that ascend; what is among some texts; what is strange: program and reference alike. -/
import Derived.Test.YtdlhidjphaaklaaAid
import Derived.Test.YtdlhidjphaaklaaBase
import Derived.Test.YtdlhidjphaaklaaCopy
import Derived.Test.YtdlhidjphaaklaaEv
import Derived.Test.YtdlhidjphaaklaaGet
import Derived.Test.YtdlhidjphaaklaaKeys
import Derived.Test.YtdlhidjphaaklaaLists
import Derived.Test.YtdlhidjphaaklaaMark
import Derived.Test.YtdlhidjphaaklaaOwn
import Derived.Test.YtdlhidjphaaklaaP_impl_PaceNew
import Derived.Test.YtdlhidjphaaklaaP_spec_l7In
import Derived.Test.YtdlhidjphaaklaaStrange
import Derived.Test.YtdlhidjphaaklaaTok
import Derived.Test.YtdlhidjphaaklaaTree
import Derived.Sort.Walk0
namespace Go.Proofs.Ytdlhidjphaaklaa.H
open Go.RowKit Go.Proofs.Ytdlhidjphaaklaa.P Go.Proofs.YtdlhidjphaaklaaW.PrintWords Go.Proofs.Ytdlhidjphaaklaa.M
set_option linter.unusedVariables false

theorem keys_at {l : List ByteArray} (h : keysOk l = true) {i : Nat} (hi : i < l.length) : keyB l i = true := by
  unfold keysOk at h
  rw [List.all_eq_true] at h
  exact h i (by rw [List.mem_range']; exact ⟨i, hi, by omega⟩)
theorem keys_lt {l : List ByteArray} (h : keysOk l = true) : ∀ (d i : Nat) (hj : i + d + 1 < l.length), l[i].data.toList < l[i + d + 1].data.toList := by
  have one : ∀ (i : Nat) (hj : i + 1 < l.length), l[i].data.toList < l[i + 1].data.toList := by
    intro i hj
    have := keys_at h hj
    unfold keyB at this
    simp only [Bool.and_eq_true, Bool.or_eq_true, decide_eq_true_eq, Nat.add_sub_cancel] at this
    rcases this.2 with e | e
    · omega
    · rw [getD_at _ _ (by omega), getD_at _ _ hj, Go.Proofs.bytesLess_eq, decide_eq_true_eq, Lib.toList_data, Lib.toList_data] at e
      exact e
  intro d
  induction d with
  | zero => intro i hj; exact one i hj
  | succ d ih =>
    intro i hj
    exact List.lt_trans (ih i (by omega)) (one (i + d + 1) hj)
theorem asc_keys {l : List ByteArray} (h : keysOk l = true) : Asc l := by
  unfold Asc
  rw [List.pairwise_map, List.pairwise_iff_getElem]
  intro i j hi hj hij
  obtain ⟨d, rfl⟩ : ∃ d, j = i + d + 1 := ⟨j - i - 1, by omega⟩
  exact List.le_of_lt (keys_lt h d i hj)
theorem has_false {l : List ByteArray} {x : ByteArray} : Lib.containsS l x = false ↔ x ∉ l := by
  rw [← Lib.containsS_iff]
  simp
theorem index_ev (l : List ByteArray) (x : ByteArray) (hl : l.length ≤ 1099511627776) : ∀ (d i : Nat), i + d = l.length → (∀ j (hj : j < l.length), j < i → l[j] ≠ x) → ∃ n : Int, Ev (fun k => slices_Index_string_string.l0 k l x (l.length : Int) (i : Int)) n ∧ (0 ≤ n ↔ x ∈ l) := by
  intro d
  induction d with
  | zero =>
    intro i hi hj
    obtain rfl : i = l.length := by omega
    refine ⟨-1, Ev.step (f := fun _ => some (-1)) (fun k => by simp only [slices_Index_string_string.l0]; rw [if_neg (by omega)]) (Ev.now _), ⟨fun h => by omega, fun h => ?_⟩⟩
    obtain ⟨j, hj2, e⟩ := List.getElem_of_mem h
    exact absurd e (hj j hj2 hj2)
  | succ d ih =>
    intro i hi hj
    have hlt : i < l.length := by omega
    have e : rdOf ByteArray.empty l (i : Int) = l[i] := getD_at l i hlt
    by_cases hx : l[i] = x
    · refine ⟨i, Ev.step (f := fun _ => some (i : Int)) (fun k => by simp only [slices_Index_string_string.l0]; rw [if_pos (by omega), if_pos (by omega), if_pos (by omega), e, if_pos (by rw [hx])]) (Ev.now _), ⟨fun _ => hx ▸ List.getElem_mem hlt, fun _ => by omega⟩⟩
    · obtain ⟨n, h1, h2⟩ := ih (i + 1) (by omega) (fun j hj2 hji => by
        rcases Nat.lt_or_ge j i with h | h
        · exact hj j hj2 h
        · obtain rfl : j = i := by omega
          exact hx)
      refine ⟨n, Ev.step (f := fun k => slices_Index_string_string.l0 k l x (l.length : Int) ((i + 1 : Nat) : Int)) (fun k => by simp only [slices_Index_string_string.l0]; rw [if_pos (by omega), if_pos (by omega), if_pos (by omega), e, if_neg (fun h => hx (tlb.1 h).symm), wsucc (by omega)]) h1, h2⟩
theorem has_ev (l : List ByteArray) (x : ByteArray) (hl : l.length ≤ 1099511627776) : Ev (fun k => slices_Contains_string_string.f k l x) (Lib.containsS l x) := by
  obtain ⟨n, h1, h2⟩ := index_ev l x hl l.length 0 (by omega) (fun j _ hj => absurd hj (Nat.not_lt_zero _))
  unfold slices_Contains_string_string.f slices_Index_string_string.f
  refine Ev.bind h1 ?_
  have : decide (n ≥ 0) = Lib.containsS l x := by
    rw [Bool.eq_iff_iff, decide_eq_true_eq, Lib.containsS_iff]
    exact h2
  rw [this]
  exact Ev.now _
theorem specIn_ev (l : List ByteArray) (x : ByteArray) (hl : l.length ≤ 1099511627776) : Ev (fun k => spec_l7In.f k l x) (Lib.containsS l x) := by
  have key : ∀ (d i : Nat), i + d = l.length → (∀ j (hj : j < l.length), j < i → l[j] ≠ x) → Ev (fun k => spec_l7In.l0 k l x (i : Int)) (Lib.containsS l x) := by
    intro d
    induction d with
    | zero =>
      intro i hi hj
      obtain rfl : i = l.length := by omega
      have : Lib.containsS l x = false := has_false.2 (fun h => by
        obtain ⟨j, hj2, e⟩ := List.getElem_of_mem h
        exact hj j hj2 hj2 e)
      rw [this]
      exact Ev.step (f := fun _ => some false) (fun k => by simp only [spec_l7In.l0]; rw [if_neg (by omega)]) (Ev.now _)
    | succ d ih =>
      intro i hi hj
      have hlt : i < l.length := by omega
      have e : rdOf ByteArray.empty l (i : Int) = l[i] := getD_at l i hlt
      by_cases hx : l[i] = x
      · have : Lib.containsS l x = true := (Lib.containsS_iff l x).2 (hx ▸ List.getElem_mem hlt)
        rw [this]
        exact Ev.step (f := fun _ => some true) (fun k => by simp only [spec_l7In.l0]; rw [if_pos (by omega), if_pos (by omega), e, if_pos (by rw [hx])]) (Ev.now _)
      · refine Ev.step (f := fun k => spec_l7In.l0 k l x ((i + 1 : Nat) : Int)) (fun k => by simp only [spec_l7In.l0]; rw [if_pos (by omega), if_pos (by omega), e, if_neg (fun h => hx (tlb.1 h)), wsucc (by omega)]) (ih (i + 1) (by omega) (fun j hj2 hji => ?_))
        rcases Nat.lt_or_ge j i with h | h
        · exact hj j hj2 h
        · obtain rfl : j = i := by omega
          exact hx
  unfold spec_l7In.f
  exact key l.length 0 (by omega) (fun j _ hj => absurd hj (Nat.not_lt_zero _))
/-- The first Key that is none of some, as the reference has it. -/
def fit1 (known : List ByteArray) : List ByteArray → ByteArray
  | [] => ⟨#[]⟩
  | k :: ks => if Lib.containsS known k = true then fit1 known ks else k
theorem fit_str (known : List ByteArray) (h0 : Lib.containsS known ⟨#[]⟩ = false) : ∀ ks, str1 known ks = if fit1 known ks = ⟨#[]⟩ then (if ks.all (fun k => Lib.containsS known k) = true then none else some (⟨#[]⟩, false)) else some (fit1 known ks, true)
  | [] => rfl
  | k :: ks => by
    unfold str1 fit1
    have he : k.toList = [] ↔ k = ⟨#[]⟩ := by
      have hz : (⟨#[]⟩ : ByteArray).toList = [] := Lib.toList_data ⟨#[]⟩
      exact ⟨fun h => tlb.1 (h.trans hz.symm), fun h => h ▸ hz⟩
    by_cases h : Lib.containsS known k = true
    · have hk : ¬ k.toList = [] := fun e => by rw [he.1 e] at h; rw [h0] at h; cases h
      rw [if_neg hk, if_pos h, if_pos h, fit_str known h0 ks, List.all_cons, h, Bool.true_and]
    · have hf : Lib.containsS known k = false := by simpa using h
      by_cases e : k = ⟨#[]⟩
      · rw [if_pos (he.2 e)]
        rw [e] at hf ⊢
        simp [hf]
      · rw [if_neg (fun h2 => e (he.1 h2)), if_neg h, if_neg h, if_neg e]
theorem specFit_ev (x : S33) (known : List ByteArray) (hlk : known.length ≤ 1099511627776) (ht : totK x ≤ 1048576) (hl : x.f3.length ≤ 1099511627776) :
    Ev (fun k => spec_l7Fit.f k x.f0 x.f1 x.f2 x.f3 x.f4 known []) (if x.f0 = 5 ∧ treeOkK x = true then fit1 known x.f3 else ⟨#[46]⟩) := by
  have none0 : Ev (fun k => spec_l7Fit.j0 k known [] true x.f0 x.f1 x.f2 x.f3 x.f4) ⟨#[46]⟩ :=
    Ev.step (f := fun _ => some (⟨#[46]⟩ : ByteArray)) (fun k => by simp only [spec_l7Fit.j0]; rw [if_pos trivial]) (Ev.now _)
  unfold spec_l7Fit.f
  by_cases h5 : x.f0 = 5
  · simp only [h5, if_true, true_and]
    have h5' := spec_treeOk_ev x ht
    rw [h5] at h5'
    refine Ev.bind h5' ?_
    by_cases hok : treeOkK x = true
    · rw [if_pos hok, hok]
      have key : ∀ (d i : Nat), i + d = x.f3.length → Ev (fun k => spec_l7Fit.l0 k known [] (i : Int) 5 x.f1 x.f2 x.f3 x.f4) (fit1 known (x.f3.drop i)) := by
        intro d
        induction d with
        | zero =>
          intro i hi
          obtain rfl : i = x.f3.length := by omega
          rw [List.drop_of_length_le (Nat.le_refl _)]
          refine Ev.step (f := fun k => spec_l7Fit.l1 k [] 0 5 x.f1 x.f2 x.f3 x.f4) (fun k => by simp only [spec_l7Fit.l0]; rw [if_neg (by omega)]) ?_
          exact Ev.step (f := fun _ => some (⟨#[]⟩ : ByteArray)) (fun k => by simp only [spec_l7Fit.l1]; rw [if_neg (by simp)]) (Ev.now _)
        | succ d ih =>
          intro i hi
          have hlt : i < x.f3.length := by omega
          have e : rdOf ByteArray.empty x.f3 (i : Int) = x.f3[i] := getD_at x.f3 i hlt
          rw [List.drop_eq_getElem_cons hlt]
          refine Ev.step (f := fun k => (spec_l7In.f k known x.f3[i]).bind fun t138 => (if t138 = true then (spec_l7Fit.l0 k known [] ((i + 1 : Nat) : Int) 5 x.f1 x.f2 x.f3 x.f4) else (some x.f3[i]))) (fun k => by simp only [spec_l7Fit.l0]; rw [if_pos (by omega), if_pos (by omega), e, wsucc (by omega)]) ?_
          refine Ev.bind (specIn_ev known x.f3[i] hlk) ?_
          unfold fit1
          by_cases h : Lib.containsS known x.f3[i] = true
          · simp only [h, if_true]
            exact ih (i + 1) (by omega)
          · simp only [h]
            exact Ev.now _
      refine Ev.step (f := fun k => spec_l7Fit.l0 k known [] 0 5 x.f1 x.f2 x.f3 x.f4) (fun k => by simp only [spec_l7Fit.j0]; rw [if_neg (by simp)]) ?_
      have := key x.f3.length 0 (by omega)
      rwa [List.drop_zero] at this
    · rw [if_neg hok, show treeOkK x = false by simpa using hok]
      rw [h5] at none0
      exact none0
  · simp only [h5, if_false, false_and]
    exact none0
end Go.Proofs.Ytdlhidjphaaklaa.H
