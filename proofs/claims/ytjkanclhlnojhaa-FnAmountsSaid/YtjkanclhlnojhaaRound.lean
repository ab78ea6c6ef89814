/- What is told is read as it was: numbers, amounts, spans. -/
import Derived.Test.YtjkanclhlnojhaaAid
import Derived.Test.YtjkanclhlnojhaaAmount
import Derived.Test.YtjkanclhlnojhaaBytes
import Derived.Test.YtjkanclhlnojhaaDigits
import Derived.Test.YtjkanclhlnojhaaNumber
namespace Go.Proofs.Ytjkanclhlnojhaa.M
open Go.RowKit Go.Proofs.Ytjkanclhlnojhaa.P Go.Proofs.YtjkanclhlnojhaaW.PrintWords

def nb (n : Nat) : List Int := (natDigs n).map fun b => (b.toNat : Int)
theorem digits_nat (n : Nat) : bytesOf (digits (n : Int)) = nb n := by
  unfold digits bytesOf nb
  rw [if_neg (by omega), List.nil_append, Int.natAbs_natCast]
theorem nb_dig (n : Nat) : (nb n).all digB = true := by
  rw [List.all_eq_true]
  intro c hc
  obtain ⟨d, hd, rfl⟩ := List.mem_map.1 hc
  have := natDigs_dig _ d hd
  unfold digB
  simp only [Bool.and_eq_true, decide_eq_true_eq]
  omega
theorem nb_val : ∀ n : Nat, valL 0 (nb n) = n := by
  intro n
  induction n using Nat.strongRecOn with
  | _ n ih =>
    have key0 : ∀ d : Fin 10, ((UInt8.ofNat (48 + d.val)).toNat : Int) = 48 + d.val := by decide +kernel
    have key : ∀ d : Nat, d < 10 → ((UInt8.ofNat (48 + d)).toNat : Int) = 48 + d := fun d hd => key0 ⟨d, hd⟩
    by_cases h : n < 10
    · unfold nb valL
      rw [natDigs_lt h]
      have := key n h
      simp only [List.map_cons, List.map_nil, List.foldl_cons, List.foldl_nil]
      omega
    · have h2 := ih (n / 10) (by omega)
      unfold nb valL at h2 ⊢
      rw [natDigs_ge h, List.map_append, List.foldl_append, h2]
      have := key (n % 10) (by omega)
      simp only [List.map_cons, List.map_nil, List.foldl_cons, List.foldl_nil]
      omega
theorem number_digits (n : Nat) (hn : n ≤ 1000000000000) : number (digits (n : Int)) = ((n : Int), true) := by
  have hb := digits_nat n
  have hlen : (digits (n : Int)).size = (natDigs n).length := by rw [← bytesOf_length, hb]; unfold nb; rw [List.length_map]
  have hl13 := natDigs_len 13 n (by omega) (by omega)
  have hpos : 0 < (natDigs n).length := List.length_pos_iff.2 (natDigs_ne n)
  have hfirst : ¬ bt (digits (n : Int)) 0 = 45 := by
    intro h
    have h1 := drop_bytes' (digits (n : Int)) 0 (by omega)
    rw [List.drop_zero, hb] at h1
    have h2 := nb_dig n
    rw [h1, List.all_cons] at h2
    have h3 : (((0 : Nat) : Int)) = 0 := rfl
    rw [h3, h] at h2
    simp [digB] at h2
  have hr : rest (digits (n : Int)) = digits (n : Int) := if_neg (fun z => hfirst z.2)
  unfold number
  rw [hr, if_neg (by omega)]
  unfold run
  rw [hb, if_pos (nb_dig n), nb_val]
  have hs : sg (digits (n : Int)) (digits (n : Int)) (n : Int) = (n : Int) := if_neg (by omega)
  rw [hs]
  unfold fin
  rw [if_pos]
  refine ⟨rfl, ?_⟩
  unfold inB
  simp only [Bool.and_eq_true, decide_eq_true_eq]
  omega
theorem ba_bytes (a b : ByteArray) : bytesOf (a ++ b) = bytesOf a ++ bytesOf b := by
  unfold bytesOf
  simp
theorem hd_tl (n : Nat) (b : ByteArray) (hb : bytesOf b = [] ∨ ∃ c r, bytesOf b = c :: r ∧ digB c = false) : hd (digits (n : Int) ++ b) = digits (n : Int) ∧ tl (digits (n : Int) ++ b) = bytesOf b := by
  have h := parts (s := digits (n : Int) ++ b) (d := nb n) (e := bytesOf b) (by rw [ba_bytes, digits_nat]) (nb_dig n) hb
  exact ⟨bytesOf_inj (by rw [h.1, digits_nat]), h.2⟩
theorem times_round (n : Nat) (hn : n ≤ 1000000000000) (b m : Int) (hle : (n : Int) ≤ m / b) : timesC (digits (n : Int)) b m = ((n : Int) * b, true) := by
  unfold timesC
  rw [number_digits n hn, if_pos ⟨rfl, by omega, hle⟩]
theorem amount_round (n : Int) (h0 : 0 ≤ n) (h1 : n ≤ 1000000000000) : amountOf (amountText n) = (n, true) := by
  have hin : inB n 0 1000000000000 = true := by unfold inB; simp only [Bool.and_eq_true, decide_eq_true_eq]; omega
  have lk := fun t => look4 t 1000000000000
  unfold amountText amountOf
  rw [if_pos hin]
  by_cases hk : n ≠ 0 ∧ n % 1000000 = 0
  · rw [if_pos hk]
    have e : n / 1000000 = ((n / 1000000).toNat : Int) := by omega
    rw [e]
    obtain ⟨e1, e2⟩ := hd_tl (n / 1000000).toNat ⟨#[107]⟩ (.inr ⟨107, [], rfl, by decide⟩)
    rw [e1, e2, (lk _).2.2.1, times_round _ (by omega) _ _ (by omega)]
    congr 1
    omega
  · rw [if_neg hk]
    by_cases hk2 : n % 1000 = 0
    · rw [if_pos hk2]
      have e : n / 1000 = ((n / 1000).toNat : Int) := by omega
      rw [e]
      obtain ⟨e1, e2⟩ := hd_tl (n / 1000).toNat ⟨#[]⟩ (.inl rfl)
      have en : digits ((n / 1000).toNat : Int) ++ (⟨#[]⟩ : ByteArray) = digits ((n / 1000).toNat : Int) := by apply bytesOf_inj; rw [ba_bytes]; exact List.append_nil _
      rw [en] at e1 e2
      rw [e1, e2, (lk _).1, times_round _ (by omega) _ _ (by omega)]
      congr 1
      omega
    · rw [if_neg hk2]
      have e : n = (n.toNat : Int) := by omega
      rw [e]
      obtain ⟨e1, e2⟩ := hd_tl n.toNat ⟨#[109]⟩ (.inr ⟨109, [], rfl, by decide⟩)
      rw [e1, e2, (lk _).2.1, times_round _ (by omega) _ _ (by omega)]
      congr 1
      omega
theorem span_round (n : Int) (h0 : 0 ≤ n) (h1 : n ≤ 1000000) : spanOf (spanText n) = (n, true) := by
  have hin : inB n 0 1000000 = true := by unfold inB; simp only [Bool.and_eq_true, decide_eq_true_eq]; omega
  have lk := fun t => look3 t 1000000
  unfold spanText spanOf
  rw [if_pos hin]
  by_cases hk : n ≠ 0 ∧ n % 3600 = 0
  · rw [if_pos hk]
    have e : n / 3600 = ((n / 3600).toNat : Int) := by omega
    rw [e]
    obtain ⟨e1, e2⟩ := hd_tl (n / 3600).toNat ⟨#[104]⟩ (.inr ⟨104, [], rfl, by decide⟩)
    rw [e1, e2, (lk _).1, times_round _ (by omega) _ _ (by omega)]
    congr 1
    omega
  · rw [if_neg hk]
    by_cases hk2 : n ≠ 0 ∧ n % 60 = 0
    · rw [if_pos hk2]
      have e : n / 60 = ((n / 60).toNat : Int) := by omega
      rw [e]
      obtain ⟨e1, e2⟩ := hd_tl (n / 60).toNat ⟨#[109]⟩ (.inr ⟨109, [], rfl, by decide⟩)
      rw [e1, e2, (lk _).2.1, times_round _ (by omega) _ _ (by omega)]
      congr 1
      omega
    · rw [if_neg hk2]
      have e : n = (n.toNat : Int) := by omega
      rw [e]
      obtain ⟨e1, e2⟩ := hd_tl n.toNat ⟨#[115]⟩ (.inr ⟨115, [], rfl, by decide⟩)
      rw [e1, e2, (lk _).2.2, times_round _ (by omega) _ _ (by omega)]
      congr 1
      omega
theorem timesC_or (t : ByteArray) (b m : Int) (hb : 0 < b) : timesC t b m = (0, false) ∨ ((timesC t b m).2 = true ∧ 0 ≤ (timesC t b m).1 ∧ (timesC t b m).1 ≤ m) := by
  unfold timesC
  split
  · rename_i h
    exact .inr ⟨rfl, Int.mul_nonneg h.2.1 (by omega), mul_le hb h.2.2⟩
  · exact .inl rfl
theorem look_or (e : List Int) (t : ByteArray) (m : Int) : ∀ (bs : List ByteArray) (xs : List Int), (∀ x ∈ xs, 0 < x) → look e t m bs xs = (0, false) ∨ ((look e t m bs xs).2 = true ∧ 0 ≤ (look e t m bs xs).1 ∧ (look e t m bs xs).1 ≤ m)
  | [], xs, _ => .inl (by cases xs <;> rfl)
  | b :: bs, [], _ => .inl rfl
  | b :: bs, x :: xs, h => by
    unfold look
    split
    · rename_i h1
      unfold one at h1 ⊢
      split
      · rcases timesC_or t x m (h x List.mem_cons_self) with h2 | h2
        · exact .inl h2
        · exact .inr h2
      · exact .inl rfl
    · exact look_or e t m bs xs (fun y hy => h y (List.mem_cons_of_mem _ hy))
theorem amountOf_or (s : ByteArray) : amountOf s = (0, false) ∨ ((amountOf s).2 = true ∧ 0 ≤ (amountOf s).1 ∧ (amountOf s).1 ≤ 1000000000000) := look_or _ _ _ _ _ (by simp)
theorem spanOf_or (s : ByteArray) : spanOf s = (0, false) ∨ ((spanOf s).2 = true ∧ 0 ≤ (spanOf s).1 ∧ (spanOf s).1 ≤ 1000000) := look_or _ _ _ _ _ (by simp)
theorem amountText_size (n : Int) : (amountText n).size ≤ 21 := by
  unfold amountText
  split
  · rename_i h
    have hr := in_rng h
    split
    · rw [ByteArray.size_append]; have := digits_size (n := n / 1000000) (by omega) (by omega); have : (⟨#[107]⟩ : ByteArray).size = 1 := rfl; omega
    · split
      · have := digits_size (n := n / 1000) (by omega) (by omega); omega
      · rw [ByteArray.size_append]; have := digits_size (n := n) (by omega) (by omega); have : (⟨#[109]⟩ : ByteArray).size = 1 := rfl; omega
  · exact Nat.zero_le _
theorem spanText_size (n : Int) : (spanText n).size ≤ 21 := by
  unfold spanText
  split
  · rename_i h
    have hr := in_rng h
    split
    · rw [ByteArray.size_append]; have := digits_size (n := n / 3600) (by omega) (by omega); have : (⟨#[104]⟩ : ByteArray).size = 1 := rfl; omega
    · split
      · rw [ByteArray.size_append]; have := digits_size (n := n / 60) (by omega) (by omega); have : (⟨#[109]⟩ : ByteArray).size = 1 := rfl; omega
      · rw [ByteArray.size_append]; have := digits_size (n := n) (by omega) (by omega); have : (⟨#[115]⟩ : ByteArray).size = 1 := rfl; omega
  · exact Nat.zero_le _
end Go.Proofs.Ytjkanclhlnojhaa.M
