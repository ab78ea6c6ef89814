/- Braced texts: what program and reference write is one and the same plain function. -/
import Derived.Lib.Join
import Derived.Test.YtnbnpgjgibcmpaaAid
import Derived.Test.YtnbnpgjgibcmpaaBytes
import Derived.Test.YtnbnpgjgibcmpaaDigits
import Derived.Test.YtnbnpgjgibcmpaaEv
import Derived.Test.YtnbnpgjgibcmpaaLists
import Derived.Test.YtnbnpgjgibcmpaaP_impl_Braced
import Derived.Test.YtnbnpgjgibcmpaaP_impl_braced
import Derived.Test.YtnbnpgjgibcmpaaP_spec_Braced
import Derived.Test.YtnbnpgjgibcmpaaP_spec_Digits
import Derived.Test.YtnbnpgjgibcmpaaP_spec_Quote
import Derived.Test.YtnbnpgjgibcmpaaP_spec_l4Text
import Derived.Test.YtnbnpgjgibcmpaaQuote
import Derived.Test.YtnbnpgjgibcmpaaTok
namespace Go.Proofs.Ytnbnpgjgibcmpaa.M
open Go.RowKit Go.Proofs.Ytnbnpgjgibcmpaa.P Go.Proofs.YtnbnpgjgibcmpaaW.PrintWords

/-- A loop whose state at each place is known. -/
theorem ev_iter {β σ : Type} {n : Nat} {l0 : Nat → σ → Int → Option β} (S : Nat → σ) {r : β} (hend : Ev (fun k => l0 k (S n) (n : Int)) r)
    (hstep : ∀ (i : Nat), i < n → ∀ r, Ev (fun k => l0 k (S (i + 1)) ((i + 1 : Nat) : Int)) r → Ev (fun k => l0 k (S i) (i : Int)) r) : Ev (fun k => l0 k (S 0) 0) r := by
  have key : ∀ d i, i + d = n → Ev (fun k => l0 k (S i) (i : Int)) r := by
    intro d
    induction d with
    | zero => intro i hi; have e : i = n := (by omega); rw [e]; exact hend
    | succ d ih => intro i hi; exact hstep i (by omega) r (ih (i + 1) (by omega))
  exact key n 0 (by omega)
/-- A text's bytes. -/
def bl (s : ByteArray) : List UInt8 := s.data.toList
theorem bl_mk (l : List UInt8) : bl ⟨l.toArray⟩ = l := by simp [bl]
theorem mk_bl (s : ByteArray) : (⟨(bl s).toArray⟩ : ByteArray) = s := by simp [bl]
theorem bl_append (a b : ByteArray) : bl (a ++ b) = bl a ++ bl b := by
  have h := ba_append (bl a) (bl b)
  rw [mk_bl, mk_bl] at h
  rw [h, bl_mk]
theorem bl_size (s : ByteArray) : s.size = (bl s).length := by
  have h := ba_size (bl s)
  rw [mk_bl] at h
  exact h
theorem bl_inj {a b : ByteArray} (h : bl a = bl b) : a = b := by rw [← mk_bl a, ← mk_bl b, h]
theorem join_snoc (xs : List (List UInt8)) (y sep : List UInt8) : Lib.join (xs ++ [y]) sep = if xs = [] then y else Lib.join xs sep ++ (sep ++ y) := by
  cases xs with
  | nil => simp [Lib.join_one]
  | cons x r =>
    rw [List.cons_append, Lib.join_cons, Lib.join_cons, if_neg (by simp)]
    simp [Lib.joinTail, List.append_assoc]
/-- How long a join is, where each part is at most so long. -/
theorem join_len (c : Nat) : ∀ xs : List (List UInt8), (∀ x ∈ xs, x.length ≤ c) → (Lib.join xs [44]).length ≤ (c + 1) * xs.length
  | [], _ => by simp [Lib.join_nil]
  | x :: r, h => by
    rw [Lib.join_cons, List.length_append, Lib.joinTail_length]
    have h1 := h x (by simp)
    have : Lib.lens r ≤ c * r.length := by
      have hr : ∀ y ∈ r, y.length ≤ c := fun y hy => h y (by simp [hy])
      clear h h1
      induction r with
      | nil => simp [Lib.lens]
      | cons y ys ih =>
        have h2 := hr y (by simp)
        have h3 := ih (fun z hz => hr z (by simp [hz]))
        simp only [Lib.lens, List.map_cons, List.sum_cons, List.length_cons] at h3 ⊢
        rw [Nat.mul_succ]
        omega
    simp only [List.length_cons, List.length_nil, Nat.zero_add, Nat.one_mul]
    rw [Nat.mul_succ, Nat.add_mul, Nat.one_mul]
    omega
theorem quote_len (s : ByteArray) : (bl (quote s)).length ≤ 802 := by
  unfold quote
  by_cases h : textOk s = true
  · rw [if_pos h]
    unfold textOk at h
    simp only [Bool.and_eq_true, decide_eq_true_eq] at h
    have h2 : ∀ l : List Int, (escs l).length ≤ 2 * l.length := by
      intro l
      induction l with
      | nil => simp [escs]
      | cons c r ih =>
        rw [escs_cons, List.length_append, List.length_cons]
        have : (esc c).length ≤ 2 := by unfold esc; split <;> simp
        omega
    have h3 := h2 (bytesOf s)
    rw [bytesOf_length] at h3
    rw [← bl_size]
    unfold strOfNums quoteL
    simp [ByteArray.size]
    omega
  · rw [if_neg h]; simp [bl]
theorem digits_len {n : Int} (h0 : -9223372036854775808 ≤ n) (h1 : n ≤ 9223372036854775807) : (bl (digits n)).length ≤ 20 := by
  unfold digits
  rw [bl_mk, List.length_append]
  have := natDigs_len20 (n := n.natAbs) (by omega)
  split <;> simp <;> omega

/-- What stands ahead of the Kid at a place: in a map its Key and the sign behind it. -/
def preL (a : S25) (i : Nat) : List UInt8 := if a.f0 = 5 then bl (quote (a.f3.getD i ByteArray.empty)) ++ [58] else []
/-- The Kids' texts. -/
def partsL (f : S25 → List UInt8) (a : S25) : List (List UInt8) := (List.range a.f4.length).map fun i => preL a i ++ f (a.f4.getD i z25)
/-- A right tree's braced text. -/
def brF : Nat → S25 → List UInt8
  | 0, _ => []
  | n + 1, a => if a.f0 = 0 then [110, 117, 108, 108] else if a.f0 = 1 then (if a.f1 = 1 then [116, 114, 117, 101] else [102, 97, 108, 115, 101]) else if a.f0 = 2 then bl (digits a.f1) else if a.f0 = 3 then bl (quote a.f2)
    else (if a.f0 = 5 then [123] else [91]) ++ (Lib.join (partsL (brF n) a) [44] ++ (if a.f0 = 5 then [125] else [93]))
theorem preL_len (a : S25) (i : Nat) : (preL a i).length ≤ 803 := by
  unfold preL
  split
  · have := quote_len (a.f3.getD i ByteArray.empty); rw [List.length_append, List.length_singleton]; omega
  · simp
theorem partsL_length (f : S25 → List UInt8) (a : S25) : (partsL f a).length = a.f4.length := by simp [partsL]
theorem partsL_take (f : S25 → List UInt8) (a : S25) (i : Nat) (hi : i < a.f4.length) : (partsL f a).take (i + 1) = (partsL f a).take i ++ [preL a i ++ f a.f4[i]] := by
  rw [List.take_succ_eq_append_getElem (by rw [partsL_length]; exact hi)]
  congr 2
  simp only [partsL, List.getElem_map, List.getElem_range]
  rw [List.getD_eq_getElem?_getD, List.getElem?_eq_getElem hi]
  rfl
/-- ints of 64 bits, hereditarily -/
def intsK : Nat → S25 → Prop
  | 0, _ => True
  | n + 1, a => -9223372036854775808 ≤ a.f1 ∧ a.f1 ≤ 9223372036854775807 ∧ ∀ x ∈ a.f4, intsK n x
theorem mapsK_of_right {a : S25} (h : rightK a = true) : (a.f0 = 0 ∨ a.f0 = 1 ∨ a.f0 = 2 ∨ a.f0 = 3 ∨ a.f0 = 4 ∨ a.f0 = 5) ∧ (a.f0 = 5 → a.f3.length = a.f4.length) ∧ (a.f0 ≠ 4 → a.f0 ≠ 5 → a.f4 = []) ∧ -9223372036854775808 ≤ a.f1 ∧ a.f1 ≤ 9223372036854775807 ∧ ∀ x ∈ a.f4, rightK x = true := by
  rw [rightK_eq, Bool.and_eq_true, List.all_eq_true] at h
  obtain ⟨hn, hk⟩ := h
  unfold nodeB shB at hn
  refine ⟨?_, fun h5 => ?_, fun h4 h5 => ?_, ?_⟩
  · by_cases h0 : a.f0 = 0
    · exact .inl h0
    · by_cases h1 : a.f0 = 1
      · exact .inr (.inl h1)
      · by_cases h2 : a.f0 = 2
        · exact .inr (.inr (.inl h2))
        · by_cases h3 : a.f0 = 3
          · exact .inr (.inr (.inr (.inl h3)))
          · by_cases h4 : a.f0 = 4
            · exact .inr (.inr (.inr (.inr (.inl h4))))
            · by_cases h5 : a.f0 = 5
              · exact .inr (.inr (.inr (.inr (.inr h5))))
              · simp [h0, h1, h2, h3, h4, h5] at hn
  · rw [h5] at hn
    simp at hn
    exact hn.1
  · by_cases c : a.f4.length = 0
    · exact List.eq_nil_of_length_eq_zero c
    · exfalso
      have := nodeB_kids h4 h5 (.inl c)
      unfold nodeB shB at this
      rw [this] at hn
      cases hn
  · have hb : -9223372036854775808 ≤ a.f1 ∧ a.f1 ≤ 9223372036854775807 := by
      by_cases h3 : a.f0 = 3
      · simp [h3] at hn; omega
      · by_cases h5 : a.f0 = 5
        · simp [h5] at hn; omega
        · by_cases h0 : a.f0 = 0
          · simp [h0] at hn; omega
          · by_cases h1 : a.f0 = 1
            · simp [h1] at hn; omega
            · by_cases h2 : a.f0 = 2
              · simp [h2] at hn; omega
              · by_cases h4 : a.f0 = 4
                · simp [h4] at hn; omega
                · simp [h0, h1, h2, h3, h4, h5] at hn
    exact ⟨hb.1, hb.2, hk⟩
/-- How long a braced text is. -/
theorem brF_len : ∀ (n : Nat) (a : S25), rightK a = true → (brF n a).length ≤ 2000 * totK a + 850
  | 0, a, _ => by simp [brF]
  | n + 1, a, h => by
    obtain ⟨_, _, _, b0, b1, hk⟩ := mapsK_of_right h
    have kids : (Lib.join (partsL (brF n) a) [44]).length ≤ 2000 * totK a := by
      have key : ∀ m, m ≤ a.f4.length → (Lib.join ((partsL (brF n) a).take m) [44]).length ≤ 2000 * ((a.f4.take m).map totK).sum + 1660 * m := by
        intro m
        induction m with
        | zero => intro _; simp [Lib.join_nil]
        | succ m ih =>
          intro hm
          have h1 := ih (by omega)
          have h2 := brF_len n a.f4[m] (hk _ (List.getElem_mem (by omega)))
          have h3 := preL_len a m
          rw [partsL_take _ _ _ (by omega), join_snoc, List.take_succ_eq_append_getElem (by omega)]
          rw [List.map_append, List.sum_append]
          simp only [List.map_cons, List.map_nil, List.sum_cons, List.sum_nil]
          split
          · simp only [List.length_append]; omega
          · simp only [List.length_append, List.length_cons, List.length_nil]; omega
      have := key a.f4.length (Nat.le_refl _)
      rw [List.take_of_length_le (by rw [partsL_length]; exact Nat.le_refl _), List.take_of_length_le (Nat.le_refl _)] at this
      have := totK_eq a
      omega
    have h1 := quote_len a.f2
    have h2 := digits_len b0 b1
    simp only [brF]
    repeat' split
    all_goals first | (simp only [List.length_append, List.length_cons, List.length_nil]; omega) | omega
theorem q_spec (s : ByteArray) (hs : s.size ≤ 1048576) : Ev (fun k => spec_Quote.f k s) (quote s) := Ev.past (fun k hk => spec_quote s hs k hk)
theorem q_impl (s : ByteArray) (hs : s.size ≤ 1048576) : Ev (fun k => impl_Quote.f k s) (quote s) := Ev.past (fun k hk => impl_quote s hs k hk)
theorem d_spec {n : Int} (h0 : -9223372036854775808 ≤ n) (h1 : n ≤ 9223372036854775807) : Ev (fun k => spec_Digits.f k n) (digits n) := Ev.past (fun k hk => spec_digits n h0 h1 k hk)
theorem d_impl {n : Int} (h0 : -9223372036854775808 ≤ n) (h1 : n ≤ 9223372036854775807) : Ev (fun k => impl_Digits.f k n) (digits n) := Ev.past (fun k hk => impl_digits n h0 h1 k hk)
theorem sum_take_le (l : List Nat) : ∀ m, (l.take m).sum ≤ l.sum := by
  induction l with
  | nil => intro m; simp
  | cons x r ih =>
    intro m
    cases m with
    | zero => simp
    | succ m => have := ih m; simp only [List.take_succ_cons, List.sum_cons]; omega
theorem part_len (n : Nat) (a : S25) (h : rightK a = true) (ht : totK a ≤ 1048576) (m : Nat) (hm : m ≤ a.f4.length) : (Lib.join ((partsL (brF n) a).take m) [44]).length ≤ 2097152000 := by
  obtain ⟨_, _, _, _, _, hk⟩ := mapsK_of_right h
  have key : ∀ m, m ≤ a.f4.length → (Lib.join ((partsL (brF n) a).take m) [44]).length ≤ 2000 * ((a.f4.map totK).take m).sum + 1660 * m := by
    intro m
    induction m with
    | zero => intro _; simp [Lib.join_nil]
    | succ m ih =>
      intro hm
      have h1 := ih (by omega)
      have h2 := brF_len n a.f4[m] (hk _ (List.getElem_mem (by omega)))
      have h3 := preL_len a m
      rw [partsL_take _ _ _ (by omega), join_snoc, List.take_succ_eq_append_getElem (by rw [List.length_map]; omega), List.sum_append, List.getElem_map]
      simp only [List.sum_cons, List.sum_nil]
      split
      · simp only [List.length_append]; omega
      · simp only [List.length_append, List.length_cons, List.length_nil]; omega
  have h1 := key m hm
  have h2 := sum_take_le (a.f4.map totK) m
  have := totK_eq a
  omega
theorem join_f (xs : List (List UInt8)) (h1 : xs.length ≤ 1048576) (h2 : (Lib.join xs [44]).length ≤ 2097152000) : strings_Join.f (xs.map fun l => (⟨l.toArray⟩ : ByteArray)) ⟨#[44]⟩ = some ⟨(Lib.join xs [44]).toArray⟩ := by
  have e : ((xs.map fun l => (⟨l.toArray⟩ : ByteArray)).map (·.data.toList)) = xs := by
    rw [List.map_map]
    conv => rhs; rw [← List.map_id xs]
    exact List.map_congr_left (fun l _ => by simp)
  have e2 : (⟨#[44]⟩ : ByteArray).data.toList = [44] := rfl
  unfold strings_Join.f
  rw [e, e2, if_pos (by rw [List.length_map]; omega), if_pos (by omega)]
theorem key_sz (a : S25) (ht : totK a ≤ 1048576) (i : Nat) (hi : i < a.f3.length) : (a.f3.getD i ByteArray.empty).size ≤ 1048576 := key_size hi (by have := totK_eq a; omega)
theorem impl_br_ev : ∀ (n : Nat) (a : S25), deepK a ≤ n → rightK a = true → totK a ≤ 1048576 → Ev (fun k => impl_braced.f k a.f0 a.f1 a.f2 a.f3 a.f4) ⟨(brF n a).toArray⟩
  | 0, a, hd, _, _ => by rw [deepK_eq] at hd; omega
  | n + 1, a, hd, hr, ht => by
    obtain ⟨hkind, hmap, _, b0, b1, hk⟩ := mapsK_of_right hr
    have hq := totK_eq a
    by_cases h0 : a.f0 = 0
    · refine Ev.step (f := fun _ => some (⟨#[110, 117, 108, 108]⟩ : ByteArray)) (fun k => by simp only [impl_braced.f]; rw [if_pos h0]) ?_
      simp only [brF, h0, if_true]; exact Ev.now _
    by_cases h1 : a.f0 = 1
    · by_cases h11 : a.f1 = 1
      · refine Ev.step (f := fun _ => some (⟨#[116, 114, 117, 101]⟩ : ByteArray)) (fun k => by simp only [impl_braced.f]; rw [if_neg h0, if_pos h1, if_pos h11]) ?_
        simp only [brF, h1, h11, if_true]; exact Ev.now _
      · refine Ev.step (f := fun _ => some (⟨#[102, 97, 108, 115, 101]⟩ : ByteArray)) (fun k => by simp only [impl_braced.f]; rw [if_neg h0, if_pos h1, if_neg h11]) ?_
        simp only [brF, h1, h11, if_true, if_false]; exact Ev.now _
    by_cases h2 : a.f0 = 2
    · refine Ev.step (f := fun k => (impl_Digits.f k a.f1).bind fun t => (some t)) (fun k => by simp only [impl_braced.f]; rw [if_neg h0, if_neg h1, if_pos h2]) ?_
      simp only [brF, h2, if_true]
      refine Ev.bind (d_impl b0 b1) ?_
      rw [show (⟨((if (2 : Int) = 0 then [110, 117, 108, 108] else if (2 : Int) = 1 then (if a.f1 = 1 then [116, 114, 117, 101] else [102, 97, 108, 115, 101]) else bl (digits a.f1)) : List UInt8).toArray⟩ : ByteArray) = digits a.f1 from mk_bl _]
      exact Ev.now _
    by_cases h3 : a.f0 = 3
    · refine Ev.step (f := fun k => (impl_Quote.f k a.f2).bind fun t => (some t)) (fun k => by simp only [impl_braced.f]; rw [if_neg h0, if_neg h1, if_neg h2, if_pos h3]) ?_
      refine Ev.bind (q_impl _ (by omega)) ?_
      rw [show brF (n + 1) a = bl (quote a.f2) from by simp only [brF]; rw [if_neg h0, if_neg h1, if_neg h2, if_pos h3], mk_bl]
      exact Ev.now _
    have hl : a.f4.length ≤ 1048576 := by omega
    rw [show brF (n + 1) a = (if a.f0 = 5 then [123] else [91]) ++ (Lib.join (partsL (brF n) a) [44] ++ (if a.f0 = 5 then [125] else [93])) from by simp only [brF]; rw [if_neg h0, if_neg h1, if_neg h2, if_neg h3]]
    refine Ev.step (f := fun k => impl_braced.l0 k ([] : List ByteArray) a.f4 (a.f4.length : Int) 0 a.f0 a.f1 a.f2 a.f3 a.f4) (fun k => by simp only [impl_braced.f]; rw [if_neg h0, if_neg h1, if_neg h2, if_neg h3]) ?_
    refine ev_iter (n := a.f4.length) (l0 := fun k s i => impl_braced.l0 k s a.f4 (a.f4.length : Int) i a.f0 a.f1 a.f2 a.f3 a.f4) (fun i => ((partsL (brF n) a).take i).map fun l => (⟨l.toArray⟩ : ByteArray)) ?_ (fun i hi r hrr => ?_)
    · have hj := part_len n a hr ht a.f4.length (Nat.le_refl _)
      rw [List.take_of_length_le (by rw [partsL_length]; exact Nat.le_refl _)] at hj ⊢
      have hjf := join_f (partsL (brF n) a) (by rw [partsL_length]; exact hl) hj
      have es : (⟨(Lib.join (partsL (brF n) a) [44]).toArray⟩ : ByteArray).size = (Lib.join (partsL (brF n) a) [44]).length := ba_size _
      by_cases h5 : a.f0 = 5
      · refine Ev.step (f := fun _ => some (((⟨#[123]⟩ : ByteArray) ++ ⟨(Lib.join (partsL (brF n) a) [44]).toArray⟩) ++ (⟨#[125]⟩ : ByteArray))) (fun k => ?_) ?_
        · simp only [impl_braced.l0]
          rw [if_neg (by omega), if_pos h5, hjf, Option.bind_some, if_pos (by omega), if_pos (by rw [ByteArray.size_append', es]; show 1 + _ + 1 ≤ _; omega)]
        · rw [if_pos h5, if_pos h5]
          refine Ev.eq (fun _ => rfl) (bl_inj ?_)
          rw [bl_append, bl_append, bl_mk, bl_mk]
          rfl
      · refine Ev.step (f := fun _ => some (((⟨#[91]⟩ : ByteArray) ++ ⟨(Lib.join (partsL (brF n) a) [44]).toArray⟩) ++ (⟨#[93]⟩ : ByteArray))) (fun k => ?_) ?_
        · simp only [impl_braced.l0]
          rw [if_neg (by omega), if_neg h5, hjf, Option.bind_some, if_pos (by omega), if_pos (by rw [ByteArray.size_append', es]; show 1 + _ + 1 ≤ _; omega)]
        · rw [if_neg h5, if_neg h5]
          refine Ev.eq (fun _ => rfl) (bl_inj ?_)
          rw [bl_append, bl_append, bl_mk, bl_mk]
          rfl
    · have hm := List.getElem_mem hi
      have hd2 := deepK_kid hm
      have ht2 := totK_kid hm
      have hs : (((partsL (brF n) a).take i).map fun l => (⟨l.toArray⟩ : ByteArray)).length < 8796093022208 := by rw [List.length_map, List.length_take]; omega
      have hb := brF_len n _ (hk _ hm)
      have eb : (⟨(brF n a.f4[i]).toArray⟩ : ByteArray).size = (brF n a.f4[i]).length := ba_size _
      rw [partsL_take _ _ _ hi, List.map_append] at hrr
      by_cases h5 : a.f0 = 5
      · have hi3 : i < a.f3.length := by rw [hmap h5]; exact hi
        have hql := quote_len (a.f3.getD i ByteArray.empty)
        rw [← bl_size] at hql
        refine Ev.step (f := fun k => (impl_braced.f k a.f4[i].f0 a.f4[i].f1 a.f4[i].f2 a.f4[i].f3 a.f4[i].f4).bind fun t1235 => ((impl_Quote.f k (a.f3.getD i ByteArray.empty)).bind fun t1237 => (if t1237.size + 1 ≤ 9223372036854775807 then (if (t1237 ++ (⟨#[58]⟩ : ByteArray)).size + t1235.size ≤ 9223372036854775807 then (impl_braced.l0 k ((((partsL (brF n) a).take i).map fun l => (⟨l.toArray⟩ : ByteArray)) ++ [(t1237 ++ (⟨#[58]⟩ : ByteArray)) ++ t1235]) a.f4 (a.f4.length : Int) ((i + 1 : Nat) : Int) a.f0 a.f1 a.f2 a.f3 a.f4) else none) else none))) (fun k => ?_) ?_
        · simp only [impl_braced.l0]
          rw [if_pos (by omega), if_pos (by omega), if_pos (by omega), rdK _ _ hi, wsucc (by omega)]
          congr 1
          funext t
          rw [if_pos h5, if_pos (by omega), rdB]
          congr 1
          funext t2
          rw [if_pos hs]
        · refine Ev.bind (impl_br_ev n _ (by omega) (hk _ hm) (by omega)) (Ev.bind (q_impl _ (key_sz a ht i hi3)) ?_)
          have c1 : (quote (a.f3.getD i ByteArray.empty)).size + 1 ≤ 9223372036854775807 := by omega
          have c2 : (quote (a.f3.getD i ByteArray.empty) ++ (⟨#[58]⟩ : ByteArray)).size + (⟨(brF n a.f4[i]).toArray⟩ : ByteArray).size ≤ 9223372036854775807 := by
            rw [ByteArray.size_append', eb]
            show _ + 1 + _ ≤ _
            omega
          simp only [c1, c2, if_true]
          have ep : (quote (a.f3.getD i ByteArray.empty) ++ (⟨#[58]⟩ : ByteArray)) ++ (⟨(brF n a.f4[i]).toArray⟩ : ByteArray) = ⟨(preL a i ++ brF n a.f4[i]).toArray⟩ := by
            refine bl_inj ?_
            rw [bl_append, bl_append, bl_mk, bl_mk]
            unfold preL
            rw [if_pos h5]
            rfl
          rw [ep]
          exact hrr
      · refine Ev.step (f := fun k => (impl_braced.f k a.f4[i].f0 a.f4[i].f1 a.f4[i].f2 a.f4[i].f3 a.f4[i].f4).bind fun t1235 => (impl_braced.l0 k ((((partsL (brF n) a).take i).map fun l => (⟨l.toArray⟩ : ByteArray)) ++ [t1235]) a.f4 (a.f4.length : Int) ((i + 1 : Nat) : Int) a.f0 a.f1 a.f2 a.f3 a.f4)) (fun k => ?_) ?_
        · simp only [impl_braced.l0]
          rw [if_pos (by omega), if_pos (by omega), if_pos (by omega), rdK _ _ hi, wsucc (by omega)]
          congr 1
          funext t
          rw [if_neg h5, if_pos hs]
        · refine Ev.bind (impl_br_ev n _ (by omega) (hk _ hm) (by omega)) ?_
          have ep : preL a i ++ brF n a.f4[i] = brF n a.f4[i] := by unfold preL; rw [if_neg h5]; rfl
          rw [ep] at hrr
          exact hrr
theorem spec_br_ev : ∀ (n : Nat) (a : S25), deepK a ≤ n → rightK a = true → totK a ≤ 1048576 → Ev (fun k => spec_l4Text.f k a.f0 a.f1 a.f2 a.f3 a.f4) ⟨(brF n a).toArray⟩
  | 0, a, hd, _, _ => by rw [deepK_eq] at hd; omega
  | n + 1, a, hd, hr, ht => by
    obtain ⟨hkind, hmap, _, b0, b1, hk⟩ := mapsK_of_right hr
    have hq := totK_eq a
    by_cases h0 : a.f0 = 0
    · refine Ev.step (f := fun _ => some (⟨#[110, 117, 108, 108]⟩ : ByteArray)) (fun k => by simp only [spec_l4Text.f]; rw [if_pos h0]) ?_
      simp only [brF, h0, if_true]; exact Ev.now _
    by_cases h1 : a.f0 = 1
    · by_cases h11 : a.f1 = 1
      · refine Ev.step (f := fun _ => some (⟨#[116, 114, 117, 101]⟩ : ByteArray)) (fun k => by simp only [spec_l4Text.f]; rw [if_neg h0, if_pos h1, if_pos h11]) ?_
        simp only [brF, h1, h11, if_true]; exact Ev.now _
      · refine Ev.step (f := fun _ => some (⟨#[102, 97, 108, 115, 101]⟩ : ByteArray)) (fun k => by simp only [spec_l4Text.f]; rw [if_neg h0, if_pos h1, if_neg h11]) ?_
        simp only [brF, h1, h11, if_true, if_false]; exact Ev.now _
    by_cases h2 : a.f0 = 2
    · refine Ev.step (f := fun k => (spec_Digits.f k a.f1).bind fun t => (some t)) (fun k => by simp only [spec_l4Text.f]; rw [if_neg h0, if_neg h1, if_pos h2]) ?_
      refine Ev.bind (d_spec b0 b1) ?_
      rw [show brF (n + 1) a = bl (digits a.f1) from by simp only [brF]; rw [if_neg h0, if_neg h1, if_pos h2], mk_bl]
      exact Ev.now _
    by_cases h3 : a.f0 = 3
    · refine Ev.step (f := fun k => (spec_Quote.f k a.f2).bind fun t => (some t)) (fun k => by simp only [spec_l4Text.f]; rw [if_neg h0, if_neg h1, if_neg h2, if_pos h3]) ?_
      refine Ev.bind (q_spec _ (by omega)) ?_
      rw [show brF (n + 1) a = bl (quote a.f2) from by simp only [brF]; rw [if_neg h0, if_neg h1, if_neg h2, if_pos h3], mk_bl]
      exact Ev.now _
    have hl : a.f4.length ≤ 1048576 := by omega
    rw [show brF (n + 1) a = (if a.f0 = 5 then [123] else [91]) ++ (Lib.join (partsL (brF n) a) [44] ++ (if a.f0 = 5 then [125] else [93])) from by simp only [brF]; rw [if_neg h0, if_neg h1, if_neg h2, if_neg h3]]
    -- the loop, over whatever stands at the two ends
    have loop : ∀ o c : UInt8, Ev (fun k => spec_l4Text.l0 k ⟨#[c]⟩ ⟨#[o]⟩ 0 a.f0 a.f1 a.f2 a.f3 a.f4) ⟨([o] ++ (Lib.join (partsL (brF n) a) [44] ++ [c])).toArray⟩ := by
      intro o c
      refine ev_iter (n := a.f4.length) (l0 := fun k s i => spec_l4Text.l0 k ⟨#[c]⟩ s i a.f0 a.f1 a.f2 a.f3 a.f4) (fun i => (⟨([o] ++ Lib.join ((partsL (brF n) a).take i) [44]).toArray⟩ : ByteArray)) ?_ (fun i hi r hrr => ?_)
      · have hj := part_len n a hr ht a.f4.length (Nat.le_refl _)
        rw [List.take_of_length_le (by rw [partsL_length]; exact Nat.le_refl _)] at hj ⊢
        have es : (⟨([o] ++ Lib.join (partsL (brF n) a) [44]).toArray⟩ : ByteArray).size = ([o] ++ Lib.join (partsL (brF n) a) [44]).length := ba_size _
        rw [List.length_append, List.length_singleton] at es
        refine Ev.step (f := fun _ => some ((⟨([o] ++ Lib.join (partsL (brF n) a) [44]).toArray⟩ : ByteArray) ++ (⟨#[c]⟩ : ByteArray))) (fun k => ?_) ?_
        · simp only [spec_l4Text.l0]
          rw [if_neg (by omega), if_pos (by rw [es]; show _ + 1 ≤ _; omega)]
        · refine Ev.eq (fun _ => rfl) (bl_inj ?_)
          rw [bl_append, bl_mk, bl_mk, List.append_assoc]
          rfl
      · have hm := List.getElem_mem hi
        have hd2 := deepK_kid hm
        have ht2 := totK_kid hm
        have hb := brF_len n _ (hk _ hm)
        have hj := part_len n a hr ht i (by omega)
        have eb : (⟨(brF n a.f4[i]).toArray⟩ : ByteArray).size = (brF n a.f4[i]).length := ba_size _
        rw [partsL_take _ _ _ hi, join_snoc] at hrr
        -- a part, behind what is there (with the sign between, if there is something)
        have part : ∀ x : List UInt8, x.length ≤ 2097152002 → Ev (fun k => spec_l4Text.l0 k ⟨#[c]⟩ ⟨(x ++ (preL a i ++ brF n a.f4[i])).toArray⟩ ((i + 1 : Nat) : Int) a.f0 a.f1 a.f2 a.f3 a.f4) r → Ev (fun k => spec_l4Text.j2 k ⟨#[c]⟩ ⟨x.toArray⟩ (i : Int) a.f0 a.f1 a.f2 a.f3 a.f4) r := by
          intro x hx hev
          have ex : (⟨x.toArray⟩ : ByteArray).size = x.length := ba_size _
          by_cases h5 : a.f0 = 5
          · have hi3 : i < a.f3.length := by rw [hmap h5]; exact hi
            have hql := quote_len (a.f3.getD i ByteArray.empty)
            rw [← bl_size] at hql
            refine Ev.step (f := fun k => (spec_Quote.f k (a.f3.getD i ByteArray.empty)).bind fun t1197 => (if (⟨x.toArray⟩ : ByteArray).size + t1197.size ≤ 9223372036854775807 then (if ((⟨x.toArray⟩ : ByteArray) ++ t1197).size + 1 ≤ 9223372036854775807 then ((spec_l4Text.f k a.f4[i].f0 a.f4[i].f1 a.f4[i].f2 a.f4[i].f3 a.f4[i].f4).bind fun t1199 => (if (((⟨x.toArray⟩ : ByteArray) ++ t1197) ++ (⟨#[58]⟩ : ByteArray)).size + t1199.size ≤ 9223372036854775807 then (spec_l4Text.l0 k ⟨#[c]⟩ ((((⟨x.toArray⟩ : ByteArray) ++ t1197) ++ (⟨#[58]⟩ : ByteArray)) ++ t1199) ((i + 1 : Nat) : Int) a.f0 a.f1 a.f2 a.f3 a.f4) else (none))) else (none)) else (none))) (fun k => ?_) ?_
            · simp only [spec_l4Text.j2]
              rw [if_pos h5, if_pos (by omega), if_pos (by omega), rdB]
              congr 1
              funext t
              rw [if_pos (show (i : Int) < (a.f4.length : Int) by omega), rdK _ _ hi, wsucc (by omega)]
            · refine Ev.bind (q_spec _ (key_sz a ht i hi3)) ?_
              have c1 : (⟨x.toArray⟩ : ByteArray).size + (quote (a.f3.getD i ByteArray.empty)).size ≤ 9223372036854775807 := by omega
              have c2 : ((⟨x.toArray⟩ : ByteArray) ++ quote (a.f3.getD i ByteArray.empty)).size + 1 ≤ 9223372036854775807 := by rw [ByteArray.size_append']; omega
              simp only [c1, c2, if_true]
              refine Ev.bind (spec_br_ev n _ (by omega) (hk _ hm) (by omega)) ?_
              have c3 : (((⟨x.toArray⟩ : ByteArray) ++ quote (a.f3.getD i ByteArray.empty)) ++ (⟨#[58]⟩ : ByteArray)).size + (⟨(brF n a.f4[i]).toArray⟩ : ByteArray).size ≤ 9223372036854775807 := by
                rw [ByteArray.size_append', ByteArray.size_append', eb]
                show _ + _ + 1 + _ ≤ _
                omega
              simp only [c3, if_true]
              have ep : (((⟨x.toArray⟩ : ByteArray) ++ quote (a.f3.getD i ByteArray.empty)) ++ (⟨#[58]⟩ : ByteArray)) ++ (⟨(brF n a.f4[i]).toArray⟩ : ByteArray) = ⟨(x ++ (preL a i ++ brF n a.f4[i])).toArray⟩ := by
                refine bl_inj ?_
                rw [bl_append, bl_append, bl_append, bl_mk, bl_mk, bl_mk]
                unfold preL
                rw [if_pos h5]
                simp [List.append_assoc, bl]
              rw [ep]
              exact hev
          · refine Ev.step (f := fun k => (spec_l4Text.f k a.f4[i].f0 a.f4[i].f1 a.f4[i].f2 a.f4[i].f3 a.f4[i].f4).bind fun t1201 => (if (⟨x.toArray⟩ : ByteArray).size + t1201.size ≤ 9223372036854775807 then (spec_l4Text.l0 k ⟨#[c]⟩ ((⟨x.toArray⟩ : ByteArray) ++ t1201) ((i + 1 : Nat) : Int) a.f0 a.f1 a.f2 a.f3 a.f4) else (none))) (fun k => ?_) ?_
            · simp only [spec_l4Text.j2]
              rw [if_neg h5, if_pos (by omega), if_pos (by omega), rdK _ _ hi, wsucc (by omega)]
            · refine Ev.bind (spec_br_ev n _ (by omega) (hk _ hm) (by omega)) ?_
              have c3 : (⟨x.toArray⟩ : ByteArray).size + (⟨(brF n a.f4[i]).toArray⟩ : ByteArray).size ≤ 9223372036854775807 := by omega
              simp only [c3, if_true]
              have ep : preL a i ++ brF n a.f4[i] = brF n a.f4[i] := by unfold preL; rw [if_neg h5]; rfl
              rw [ep] at hev
              rw [ba_append]
              exact hev
        by_cases hi0 : i = 0
        · subst hi0
          refine Ev.step (f := fun k => spec_l4Text.j2 k ⟨#[c]⟩ ⟨([o] ++ Lib.join ((partsL (brF n) a).take 0) [44]).toArray⟩ ((0 : Nat) : Int) a.f0 a.f1 a.f2 a.f3 a.f4) (fun k => ?_) ?_
          · simp only [spec_l4Text.l0]
            rw [if_pos (by omega), if_neg (by omega)]
          · refine part _ (by simp [Lib.join_nil]) ?_
            rw [List.take_zero, if_pos rfl] at hrr
            simp only [List.take_zero, Lib.join_nil, List.append_nil]
            exact hrr
        · have hne : ¬ (partsL (brF n) a).take i = [] := by
            intro e
            have := congrArg List.length e
            rw [List.length_take, partsL_length, List.length_nil] at this
            omega
          rw [if_neg hne] at hrr
          refine Ev.step (f := fun k => spec_l4Text.j2 k ⟨#[c]⟩ ⟨([o] ++ Lib.join ((partsL (brF n) a).take i) [44] ++ [44]).toArray⟩ (i : Int) a.f0 a.f1 a.f2 a.f3 a.f4) (fun k => ?_) ?_
          · simp only [spec_l4Text.l0]
            have es : (⟨([o] ++ Lib.join ((partsL (brF n) a).take i) [44]).toArray⟩ : ByteArray).size = ([o] ++ Lib.join ((partsL (brF n) a).take i) [44]).length := ba_size _
            rw [List.length_append, List.length_singleton] at es
            rw [if_pos (by omega), if_pos (show (i : Int) > 0 by omega), if_pos (by omega), show (⟨([o] ++ Lib.join ((partsL (brF n) a).take i) [44]).toArray⟩ : ByteArray) ++ (⟨#[44]⟩ : ByteArray) = ⟨([o] ++ Lib.join ((partsL (brF n) a).take i) [44] ++ [44]).toArray⟩ from ba_append _ [44]]
          · refine part _ (by simp only [List.length_append, List.length_singleton]; omega) ?_
            have e2 : [o] ++ (Lib.join ((partsL (brF n) a).take i) [44] ++ ([44] ++ (preL a i ++ brF n a.f4[i]))) = [o] ++ Lib.join ((partsL (brF n) a).take i) [44] ++ [44] ++ (preL a i ++ brF n a.f4[i]) := by simp [List.append_assoc]
            rw [e2] at hrr
            exact hrr
    by_cases h5 : a.f0 = 5
    · rw [if_pos h5, if_pos h5]
      refine Ev.step (f := fun k => spec_l4Text.j0 k ⟨#[123]⟩ ⟨#[125]⟩ a.f0 a.f1 a.f2 a.f3 a.f4) (fun k => by simp only [spec_l4Text.f]; rw [if_neg h0, if_neg h1, if_neg h2, if_neg h3, if_pos h5]) ?_
      exact Ev.step (fun k => by simp only [spec_l4Text.j0]) (loop 123 125)
    · rw [if_neg h5, if_neg h5]
      refine Ev.step (f := fun k => spec_l4Text.j0 k ⟨#[91]⟩ ⟨#[93]⟩ a.f0 a.f1 a.f2 a.f3 a.f4) (fun k => by simp only [spec_l4Text.f]; rw [if_neg h0, if_neg h1, if_neg h2, if_neg h3, if_neg h5]) ?_
      exact Ev.step (fun k => by simp only [spec_l4Text.j0]) (loop 91 93)
/-- A tree's braced text; nothing where the tree is not right. -/
def bracedK (a : S25) : ByteArray := if treeOkK a = true then ⟨(brF (deepK a) a).toArray⟩ else ⟨#[]⟩
theorem right_of_ok {a : S25} (h : treeOkK a = true) : rightK a = true := by
  unfold treeOkK at h
  simp only [Bool.and_eq_true] at h
  exact h.2
theorem spec_braced_ev (a : S25) (ht : totK a ≤ 1048576) : Ev (fun k => spec_Braced.f k a.f0 a.f1 a.f2 a.f3 a.f4) (bracedK a) := by
  unfold spec_Braced.f bracedK
  refine Ev.bind (spec_treeOk_ev a ht) ?_
  by_cases h : treeOkK a = true
  · simp only [h, if_true]
    exact Ev.bind (spec_br_ev _ a (Nat.le_refl _) (right_of_ok h) ht) (Ev.now _)
  · simp only [h]
    exact Ev.now _
theorem impl_braced_ev (a : S25) (ht : totK a ≤ 1048576) : Ev (fun k => impl_Braced.f k a.f0 a.f1 a.f2 a.f3 a.f4) (bracedK a) := by
  unfold impl_Braced.f bracedK
  refine Ev.bind (impl_treeOk_ev a ht) ?_
  by_cases h : treeOkK a = true
  · simp only [h, if_true]
    exact Ev.bind (impl_br_ev _ a (Nat.le_refl _) (right_of_ok h) ht) (Ev.now _)
  · simp only [h]
    exact Ev.now _
end Go.Proofs.Ytnbnpgjgibcmpaa.M
