/- Spans: program and reference read the same. -/
import Derived.Test.YtdlhidjphaaklaaAid
import Derived.Test.YtdlhidjphaaklaaBytes
import Derived.Test.YtdlhidjphaaklaaDigits
import Derived.Test.YtdlhidjphaaklaaIn
import Derived.Test.YtdlhidjphaaklaaNumber
import Derived.Test.YtdlhidjphaaklaaP_impl_PaceNew
import Derived.Test.YtdlhidjphaaklaaP_spec_l2Times
namespace Go.Proofs.Ytdlhidjphaaklaa.M
open Go.RowKit Go.Proofs.Ytdlhidjphaaklaa.P Go.Proofs.YtdlhidjphaaklaaW.PrintWords

def timesC (t : ByteArray) (by_ most : Int) : Int × Bool := if (number t).2 = true ∧ 0 ≤ (number t).1 ∧ (number t).1 ≤ most / by_ then ((number t).1 * by_, true) else (0, false)
theorem mul_le {n b m : Int} (hb : 0 < b) (h : n ≤ m / b) : n * b ≤ m := by
  have := Int.mul_le_mul_of_nonneg_right h (Int.le_of_lt hb)
  have h2 := Int.ediv_mul_le m (Int.ne_of_gt hb)
  omega
theorem impl_times_eq (t : ByteArray) (b m : Int) (hb : 0 < b) (h0 : 0 ≤ m) (h1 : m ≤ 1000000000000) (k : Nat) (hk : BIG + 25 < k) : impl_times.f k t b m = some (timesC t b m) := by
  unfold impl_times.f timesC
  rw [impl_number t k hk, Option.bind_some]
  by_cases h : (number t).2 = true
  · rw [if_pos h]
    by_cases hn : (number t).1 < 0
    · rw [if_pos hn, if_neg (by omega)]
    · have hd : m / b ≤ m := Int.ediv_le_self _ h0
      have hd0 : 0 ≤ m / b := Int.ediv_nonneg h0 (by omega)
      rw [if_neg hn, if_neg (by omega), tdiv_n h0, w64 (by omega) (by omega)]
      by_cases hle : (number t).1 > m / b
      · rw [if_pos hle, if_neg (by omega)]
      · have hm := mul_le hb (show (number t).1 ≤ m / b by omega)
        have hm0 : 0 ≤ (number t).1 * b := Int.mul_nonneg (by omega) (by omega)
        rw [if_neg hle, if_pos ⟨h, by omega, by omega⟩, w64 (by omega) (by omega)]
  · rw [if_neg h, if_neg (fun z => h z.1)]
theorem natDigs_dig : ∀ n : Nat, ∀ c ∈ natDigs n, 48 ≤ c.toNat ∧ c.toNat ≤ 57 := by
  intro n
  induction n using Nat.strongRecOn with
  | _ n ih =>
    intro c hc
    have key : ∀ d : Fin 10, 48 ≤ (UInt8.ofNat (48 + d.val)).toNat ∧ (UInt8.ofNat (48 + d.val)).toNat ≤ 57 := by decide +kernel
    by_cases h : n < 10
    · rw [natDigs_lt h, List.mem_singleton] at hc
      subst hc
      exact key ⟨n, h⟩
    · rw [natDigs_ge h, List.mem_append, List.mem_singleton] at hc
      rcases hc with hc | rfl
      · exact ih _ (by omega) c hc
      · exact key ⟨n % 10, by omega⟩
theorem times_dig {t : ByteArray} {b m : Int} (h : (bytesOf t).all digB = false) : timesC t b m = (0, false) := by
  unfold timesC
  rcases number_or t with e | ⟨h1, h2, _, _⟩
  · rw [e]; simp
  · rw [if_neg]
    rintro ⟨_, h3, _⟩
    rw [← h2] at h
    have : (bytesOf (digits (number t).1)).all digB = true := by
      unfold digits bytesOf
      rw [if_neg (by omega), List.nil_append, List.all_eq_true]
      intro c hc
      obtain ⟨d, hd, rfl⟩ := List.mem_map.1 hc
      have := natDigs_dig _ d hd
      unfold digB
      simp only [Bool.and_eq_true, decide_eq_true_eq]
      omega
    rw [this] at h
    cases h
/-- What stands ahead of the first byte that is no digit, and the rest. -/
def hd (s : ByteArray) : ByteArray := s.extract 0 ((bytesOf s).takeWhile digB).length
def tl (s : ByteArray) : List Int := (bytesOf s).dropWhile digB
theorem take_len : ∀ l : List Int, l.take (l.takeWhile digB).length = l.takeWhile digB
  | [] => rfl
  | c :: l => by
    rw [List.takeWhile_cons]
    split
    · rw [List.length_cons, List.take_succ_cons, take_len l]
    · rfl
theorem drop_len (l : List Int) : l.drop (l.takeWhile digB).length = l.dropWhile digB := by
  have h := List.takeWhile_append_dropWhile (p := digB) (l := l)
  have h2 := List.take_append_drop (l.takeWhile digB).length l
  rw [take_len] at h2
  exact List.append_cancel_left (h2.trans h.symm)
theorem hd_bytes (s : ByteArray) : bytesOf (hd s) = (bytesOf s).takeWhile digB := by
  unfold hd
  rw [bytesOf_take, take_len]
theorem tl_bytes (s : ByteArray) : bytesOf (s.extract ((bytesOf s).takeWhile digB).length s.size) = tl s := by
  rw [bytesOf_drop, drop_len]; rfl
theorem hd_loop (s : ByteArray) (hs : s.size ≤ 140737488351232) : ∀ (d i k : Nat), i + d = s.size → d < k → spec_l2Head.l0 k s (i : Int) = some ((i + ((bytesOf s).drop i |>.takeWhile digB).length : Nat) : Int) := by
  intro d
  induction d with
  | zero =>
    intro i k hi hk
    obtain ⟨k, rfl⟩ : ∃ m, k = m + 1 := ⟨k - 1, by omega⟩
    simp only [spec_l2Head.l0]
    rw [if_neg (by omega), List.drop_of_length_le (by rw [bytesOf_length]; omega)]
    simp
  | succ d ih =>
    intro i k hi hk
    obtain ⟨k, rfl⟩ : ∃ m, k = m + 1 := ⟨k - 1, by omega⟩
    simp only [spec_l2Head.l0]
    rw [if_pos (by omega), if_pos (by omega), wsucc (by omega), drop_bytes' s i (by omega), List.takeWhile_cons]
    by_cases h1 : bt s i ≥ 48
    · rw [if_pos h1]
      by_cases h2 : bt s i ≤ 57
      · have : digB (bt s i) = true := by unfold digB; simp only [Bool.and_eq_true, decide_eq_true_eq]; omega
        rw [if_pos h2, ih (i + 1) k (by omega) (by omega), this, if_pos rfl, List.length_cons]
        congr 1
        omega
      · have : digB (bt s i) = false := by unfold digB; rw [decide_eq_false h2, Bool.and_false]
        rw [if_neg h2, this]; simp
    · have : digB (bt s i) = false := by unfold digB; rw [decide_eq_false (p := 48 ≤ bt s i) (by omega), Bool.false_and]
      rw [if_neg h1, this]; simp
theorem l2Head_eq (s : ByteArray) (hs : s.size ≤ 140737488351232) (k : Nat) (hk : s.size < k) : spec_l2Head.f k s = some ((((bytesOf s).takeWhile digB).length : Nat) : Int) := by
  have := hd_loop s hs s.size 0 k (by omega) hk
  unfold spec_l2Head.f
  rw [List.drop_zero, Nat.zero_add] at this
  exact this
theorem number_dig {t : ByteArray} (h : (bytesOf t).all digB = true) (hn : (number t).2 = true) : 0 ≤ (number t).1 ∧ (number t).1 ≤ 1000000000000 := by
  rcases number_or t with e | ⟨h1, h2, h3, h4⟩
  · rw [e] at hn; cases hn
  · refine ⟨?_, h4⟩
    rcases Int.lt_or_le (number t).1 0 with hneg | hpos
    · exfalso
      rw [← h2] at h
      unfold digits bytesOf at h
      rw [if_pos hneg] at h
      simp [digB] at h
    · exact hpos
def one (e : List Int) (t : ByteArray) (most : Int) (b : ByteArray) (x : Int) : Int × Bool := if e = bytesOf b then timesC t x most else (0, false)
def look (e : List Int) (t : ByteArray) (most : Int) : List ByteArray → List Int → Int × Bool
  | b :: bs, x :: xs => if (one e t most b x).2 = true then one e t most b x else look e t most bs xs
  | _, _ => (0, false)
theorem look_loop (s : ByteArray) (bs : List ByteArray) (xs : List Int) (hl : bs.length = xs.length) (hb : bs.length ≤ 10) (hx : ∀ x ∈ xs, 0 < x) (m : Int) (h0 : 0 ≤ m) (h1 : m ≤ 1000000000000) :
    ∀ (d i k : Nat), i + d = bs.length → 2 * d + 2 < k →
      spec_l2Times.l0 k s bs xs m ((((bytesOf s).takeWhile digB).length : Nat) : Int) (number (hd s)).1 (number (hd s)).2 (i : Int) = some (look (tl s) (hd s) m (bs.drop i) (xs.drop i)) := by
  have hle : ((bytesOf s).takeWhile digB).length ≤ s.size := by
    rw [← bytesOf_length s]
    exact List.Sublist.length_le (List.takeWhile_sublist _)
  intro d
  induction d with
  | zero =>
    intro i k hi hk
    obtain ⟨k, rfl⟩ : ∃ m, k = m + 2 := ⟨k - 2, by omega⟩
    simp only [spec_l2Times.l0, spec_l2Times.j1]
    rw [if_neg (by omega), if_neg (by simp), List.drop_of_length_le (by omega)]
    rfl
  | succ d ih =>
    intro i k hi hk
    obtain ⟨k, rfl⟩ : ∃ m, k = m + 2 := ⟨k - 2, by omega⟩
    have hib : i < bs.length := by omega
    have hix : i < xs.length := by omega
    simp only [spec_l2Times.l0, spec_l2Times.j1]
    rw [if_pos (by omega), List.drop_eq_getElem_cons hib, List.drop_eq_getElem_cons hix]
    have eb : rdOf ByteArray.empty bs (i : Int) = bs[i] := by unfold rdOf; simp [List.getD_eq_getElem?_getD, hib]
    have ex : rd xs (i : Int) = xs[i] := by unfold rd; simp [List.getD_eq_getElem?_getD, hix]
    have hpos := hx xs[i] (List.getElem_mem hix)
    have hnext := ih (i + 1) k (by omega) (by omega)
    have hdig : (bytesOf (hd s)).all digB = true := by rw [hd_bytes]; exact List.all_takeWhile
    unfold look
    rw [wsucc (by omega)]
    by_cases hok : (number (hd s)).2 = true
    · have hrg := number_dig hdig hok
      rw [if_pos hok, if_pos (by omega), if_pos (by omega), if_pos (by omega), if_pos (by omega), eb, ex, Int.toNat_natCast]
      by_cases he : tl s = bytesOf bs[i]
      · have e2 : (s.extract ((bytesOf s).takeWhile digB).length s.size).toList = bs[i].toList := tl_inj.2 (bytesOf_inj (by rw [tl_bytes, he]))
        have hd0 : 0 ≤ m / xs[i] := Int.ediv_nonneg h0 (by omega)
        have hd1 : m / xs[i] ≤ m := Int.ediv_le_self _ h0
        rw [if_pos e2, if_pos (by omega), if_neg (by omega), tdiv_n h0, w64 (by omega) (by omega)]
        have eo : one (tl s) (hd s) m bs[i] xs[i] = timesC (hd s) xs[i] m := if_pos he
        rw [eo]
        by_cases hle2 : (number (hd s)).1 ≤ m / xs[i]
        · have hm := mul_le hpos hle2
          have hm0 : 0 ≤ (number (hd s)).1 * xs[i] := Int.mul_nonneg hrg.1 (by omega)
          have et : timesC (hd s) xs[i] m = ((number (hd s)).1 * xs[i], true) := if_pos ⟨hok, hrg.1, hle2⟩
          rw [if_pos hle2, et, w64 (by omega) (by omega)]
          simp
        · have et : timesC (hd s) xs[i] m = (0, false) := if_neg (fun z => hle2 z.2.2)
          rw [if_neg hle2, et, hnext]
          simp
      · have e2 : ¬ (s.extract ((bytesOf s).takeWhile digB).length s.size).toList = bs[i].toList := fun z => he (by rw [← tl_bytes, tl_inj.1 z])
        have eo : one (tl s) (hd s) m bs[i] xs[i] = (0, false) := if_neg he
        rw [if_neg e2, hnext, eo]
        simp
    · have hn : (number (hd s)).2 = false := by simpa using hok
      have ht : ∀ x, timesC (hd s) x m = (0, false) := fun x => by unfold timesC; rw [if_neg (fun z => hok z.1)]
      have ho : ∀ b x, one (tl s) (hd s) m b x = (0, false) := fun b x => by unfold one; rw [ht]; split <;> rfl
      have hl0 : ∀ (bs : List ByteArray) (xs : List Int), look (tl s) (hd s) m bs xs = (0, false) := by
        intro bs
        induction bs with
        | nil => intro xs; cases xs <;> rfl
        | cons b bs ih2 => intro xs; cases xs with
          | nil => rfl
          | cons x xs => unfold look; rw [ho, ih2]; simp
      rw [if_neg hok, ho, hl0]
      simp
theorem l2Times_eq (s : ByteArray) (hs : s.size ≤ 140737488351232) (bs : List ByteArray) (xs : List Int) (hl : bs.length = xs.length) (hb : bs.length ≤ 10) (hx : ∀ x ∈ xs, 0 < x) (m : Int) (h0 : 0 ≤ m) (h1 : m ≤ 1000000000000) (k : Nat) (hk : BIG + 30 < k) (hks : s.size < k) :
    spec_l2Times.f k s bs xs m = some (look (tl s) (hd s) m bs xs) := by
  have hle : ((bytesOf s).takeWhile digB).length ≤ s.size := by
    rw [← bytesOf_length s]
    exact List.Sublist.length_le (List.takeWhile_sublist _)
  unfold spec_l2Times.f
  rw [l2Head_eq s hs k hks, Option.bind_some, if_pos (by omega), if_pos (by omega), Int.toNat_natCast]
  have e : s.extract 0 ((bytesOf s).takeWhile digB).length = hd s := rfl
  rw [e, spec_number _ k (by omega), Option.bind_some]
  exact look_loop s bs xs hl hb hx m h0 h1 bs.length 0 k (by omega) (by omega)
def spanOf (s : ByteArray) : Int × Bool := look (tl s) (hd s) 1000000 [⟨#[104]⟩, ⟨#[109]⟩, ⟨#[115]⟩] [3600, 60, 1]
theorem spec_spanOf (s : ByteArray) (hs : s.size ≤ 140737488351232) (k : Nat) (hk : BIG + 30 < k) (hks : s.size < k) : spec_SpanOf.f k s = some (spanOf s) := by
  unfold spec_SpanOf.f
  rw [l2Times_eq s hs _ _ rfl (by simp) (by simp) _ (by omega) (by omega) k hk hks]
  rfl
/-! The program's way: the end first -/
theorem bt_last (s : ByteArray) (h : 0 < s.size) : (bytesOf s).getLast? = some (bt s ((s.size : Int) - 1)) := by
  have hl : (bytesOf s).length = s.size := bytesOf_length s
  rw [List.getLast?_eq_getElem?, hl, List.getElem?_eq_getElem (by omega)]
  have := rd_bytesOf s ((s.size : Int) - 1)
  unfold rd at this
  have e : ((s.size : Int) - 1).toNat = s.size - 1 := by omega
  rw [e, List.getD_eq_getElem?_getD, List.getElem?_eq_getElem (by omega)] at this
  exact congrArg some this
/-- Digits and behind them e: what the text is. -/
theorem parts {s : ByteArray} {d e : List Int} (hs : bytesOf s = d ++ e) (hd0 : d.all digB = true) (he : e = [] ∨ ∃ c r, e = c :: r ∧ digB c = false) : bytesOf (hd s) = d ∧ tl s = e := by
  have h1 : (bytesOf s).takeWhile digB = d := by
    rw [hs, List.takeWhile_append_of_pos (by rw [List.all_eq_true] at hd0; exact hd0)]
    rcases he with rfl | ⟨c, r, rfl, hc⟩
    · simp
    · rw [List.takeWhile_cons, hc]; simp
  refine ⟨by rw [hd_bytes, h1], ?_⟩
  unfold tl
  rw [← drop_len, h1, hs, List.drop_left]
theorem look_none {e : List Int} {t : ByteArray} {m : Int} : ∀ (bs : List ByteArray) (xs : List Int), (∀ b ∈ bs, e ≠ bytesOf b) → look e t m bs xs = (0, false)
  | [], xs, _ => by cases xs <;> rfl
  | b :: bs, [], _ => rfl
  | b :: bs, x :: xs, h => by
    unfold look one
    rw [if_neg (h b List.mem_cons_self), look_none bs xs (fun b' hb => h b' (List.mem_cons_of_mem _ hb))]
    simp
/-- A remainder that is no digits alone, or one that is: both ways at once. -/
theorem by_end {s : ByteArray} {m x : Int} {bs : List ByteArray} {xs : List Int} {r : ByteArray} {b : List Int} (hs : bytesOf s = bytesOf r ++ b) (hb : b = [] ∨ ∃ c l, b = c :: l ∧ digB c = false)
    (hlook : ∀ t : ByteArray, look b t m bs xs = timesC t x m) (hno : (bytesOf r).all digB = false → look (tl s) (hd s) m bs xs = (0, false)) :
    timesC r x m = look (tl s) (hd s) m bs xs := by
  cases h : (bytesOf r).all digB with
  | true =>
    obtain ⟨h1, h2⟩ := parts hs h hb
    rw [h2, hlook, bytesOf_inj h1]
  | false => rw [times_dig h, hno h]
theorem look3 (t : ByteArray) (m : Int) : look (bytesOf ⟨#[104]⟩) t m [⟨#[104]⟩, ⟨#[109]⟩, ⟨#[115]⟩] [3600, 60, 1] = timesC t 3600 m ∧ look (bytesOf ⟨#[109]⟩) t m [⟨#[104]⟩, ⟨#[109]⟩, ⟨#[115]⟩] [3600, 60, 1] = timesC t 60 m ∧
    look (bytesOf ⟨#[115]⟩) t m [⟨#[104]⟩, ⟨#[109]⟩, ⟨#[115]⟩] [3600, 60, 1] = timesC t 1 m := by
  have hz : ∀ x, (timesC t x m).2 = true ∨ timesC t x m = (0, false) := fun x => by
    unfold timesC
    split
    · exact .inl rfl
    · exact .inr rfl
  refine ⟨?_, ?_, ?_⟩
  · rcases hz 3600 with h | h <;> simp [look, one, bytesOf, h]
  · rcases hz 60 with h | h <;> simp [look, one, bytesOf, h]
  · rcases hz 1 with h | h <;> simp [look, one, bytesOf, h]
/-- Where what stands ahead of the end is not digits alone, no end stands right behind the digits. -/
theorem not_digits {s : ByteArray} {r b : List Int} (hs : bytesOf s = r ++ b) (hr : r.all digB = false) : ∃ e, tl s = e ++ b ∧ e ≠ [] := by
  have h : ∃ e, r.dropWhile digB = e ∧ e ≠ [] := by
    refine ⟨_, rfl, fun h => ?_⟩
    have h2 := List.takeWhile_append_dropWhile (p := digB) (l := r)
    rw [h, List.append_nil] at h2
    have h3 : (r.takeWhile digB).all digB = true := List.all_takeWhile
    rw [h2, hr] at h3
    cases h3
  obtain ⟨e, he, hne⟩ := h
  refine ⟨e, ?_, hne⟩
  unfold tl
  rw [hs, List.dropWhile_append]
  have : (r.dropWhile digB).isEmpty = false := by rw [he]; cases e with
    | nil => exact absurd rfl hne
    | cons _ _ => rfl
  rw [this, he]
  simp
theorem extract_split (s : ByteArray) (n : Nat) : bytesOf s = bytesOf (s.extract 0 (s.size - n)) ++ bytesOf (s.extract (s.size - n) s.size) := by
  rw [bytesOf_take, bytesOf_drop, List.take_append_drop]
theorem bytes_lit1 (a : UInt8) : bytesOf ⟨#[a]⟩ = [(a.toNat : Int)] := rfl
theorem sz2 (a b : UInt8) : (⟨#[a, b]⟩ : ByteArray).size = 2 := rfl
theorem sz1 (a : UInt8) : (⟨#[a]⟩ : ByteArray).size = 1 := rfl
attribute [local irreducible] number timesC look
set_option maxHeartbeats 1000000 in
theorem impl_spanOf (s : ByteArray) (hs : s.size ≤ 140737488351232) (k : Nat) (hk : BIG + 30 < k) : impl_SpanOf.f k s = some (spanOf s) := by
  unfold impl_SpanOf.f spanOf
  obtain ⟨l1, l2, l3⟩ : _ ∧ _ ∧ _ := ⟨fun t => (look3 t 1000000).1, fun t => (look3 t 1000000).2.1, fun t => (look3 t 1000000).2.2⟩
  have hnone : ∀ e : List Int, e ≠ [104] → e ≠ [109] → e ≠ [115] → look e (hd s) 1000000 [⟨#[104]⟩, ⟨#[109]⟩, ⟨#[115]⟩] [3600, 60, 1] = (0, false) := by
    intro e h1 h2 h3
    refine look_none _ _ (fun b hb => ?_)
    simp only [List.mem_cons, List.not_mem_nil, or_false] at hb
    rcases hb with rfl | rfl | rfl
    · exact h1
    · exact h2
    · exact h3
  by_cases h0 : s.size = 0
  · rw [if_pos (tl_nil.2 h0)]
    have e : bytesOf s = [] := List.length_eq_zero_iff.1 (by rw [bytesOf_length]; exact h0)
    have et : tl s = [] := by unfold tl; rw [e]; rfl
    rw [et, hnone [] (by simp) (by simp) (by simp)]
  · have ew : wrap64 ((s.size : Int) - 1) = (s.size : Int) - 1 := w64 (by omega) (by omega)
    have en : ((s.size : Int) - 1).toNat = s.size - 1 := by omega
    have hlast := bt_last s (by omega)
    have hsp := extract_split s 1
    have hl1 : (bytesOf (s.extract (s.size - 1) s.size)).length = 1 := by rw [bytesOf_length, ByteArray.size_extract]; omega
    obtain ⟨c, hc⟩ := List.length_eq_one_iff.1 hl1
    rw [hc] at hsp
    have hcb : bt s ((s.size : Int) - 1) = c := by
      rw [hsp, List.getLast?_append] at hlast
      simpa using hlast.symm
    rw [if_neg (fun z => h0 (tl_nil.1 z)), ew, if_pos (by omega), if_pos (by omega), if_pos (by omega), en, hcb]
    have fin_ : ∀ (x : Int) (c0 : UInt8), c = (c0.toNat : Int) → digB c = false → (∀ t, look (bytesOf ⟨#[c0]⟩) t 1000000 [⟨#[104]⟩, ⟨#[109]⟩, ⟨#[115]⟩] [3600, 60, 1] = timesC t x 1000000) →
        timesC (s.extract 0 (s.size - 1)) x 1000000 = look (tl s) (hd s) 1000000 [⟨#[104]⟩, ⟨#[109]⟩, ⟨#[115]⟩] [3600, 60, 1] := by
      intro x c0 hx hdg hlk
      have hb : bytesOf ⟨#[c0]⟩ = [c] := by rw [hx]; rfl
      rw [hb] at hlk
      refine by_end hsp (.inr ⟨c, [], rfl, hdg⟩) hlk (fun hr => ?_)
      obtain ⟨e, he, hne⟩ := not_digits hsp hr
      rw [he]
      obtain ⟨c1, e, rfl⟩ := List.exists_cons_of_ne_nil hne
      exact hnone _ (by cases e <;> simp) (by cases e <;> simp) (by cases e <;> simp)
    by_cases c1 : c = 104
    · rw [if_pos c1, impl_times_eq _ _ _ (by omega) (by omega) (by omega) k (by omega), Option.bind_some]
      simp only [Prod.eta]
      exact congrArg some (fin_ 3600 104 c1 (by rw [c1]; rfl) l1)
    · rw [if_neg c1]
      by_cases c2 : c = 109
      · rw [if_pos c2, impl_times_eq _ _ _ (by omega) (by omega) (by omega) k (by omega), Option.bind_some]
        simp only [Prod.eta]
        exact congrArg some (fin_ 60 109 c2 (by rw [c2]; rfl) l2)
      · rw [if_neg c2]
        by_cases c3 : c = 115
        · rw [if_pos c3, impl_times_eq _ _ _ (by omega) (by omega) (by omega) k (by omega), Option.bind_some]
          simp only [Prod.eta]
          exact congrArg some (fin_ 1 115 c3 (by rw [c3]; rfl) l3)
        · rw [if_neg c3]
          have hne : ∀ d : Int, tl s = [d] → d = c := by
            intro d hd_
            have hw : bytesOf s = (bytesOf s).takeWhile digB ++ [d] := by rw [← hd_]; unfold tl; rw [List.takeWhile_append_dropWhile]
            have h1 : (bytesOf s).getLast? = some d := by rw [hw]; simp
            rw [hsp] at h1
            simpa using h1.symm
          exact congrArg some (hnone _ (fun z => c1 (hne 104 z).symm) (fun z => c2 (hne 109 z).symm) (fun z => c3 (hne 115 z).symm)).symm
end Go.Proofs.Ytdlhidjphaaklaa.M
