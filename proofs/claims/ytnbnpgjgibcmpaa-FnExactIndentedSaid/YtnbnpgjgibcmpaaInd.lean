/- Indented texts: what program and reference write is one and the same plain function. -/
import Derived.Lib.Repeat
import Derived.Test.YtnbnpgjgibcmpaaAid
import Derived.Test.YtnbnpgjgibcmpaaBr
import Derived.Test.YtnbnpgjgibcmpaaBytes
import Derived.Test.YtnbnpgjgibcmpaaDigits
import Derived.Test.YtnbnpgjgibcmpaaEv
import Derived.Test.YtnbnpgjgibcmpaaLists
import Derived.Test.YtnbnpgjgibcmpaaP_impl_Indented
import Derived.Test.YtnbnpgjgibcmpaaP_impl_indented
import Derived.Test.YtnbnpgjgibcmpaaP_spec_l5Block
import Derived.Test.YtnbnpgjgibcmpaaP_spec_l5Letter
import Derived.Test.YtnbnpgjgibcmpaaPlain
import Derived.Test.YtnbnpgjgibcmpaaQuote
import Derived.Test.YtnbnpgjgibcmpaaTok
namespace Go.Proofs.Ytnbnpgjgibcmpaa.M
open Go.RowKit Go.Proofs.Ytnbnpgjgibcmpaa.P Go.Proofs.YtnbnpgjgibcmpaaW.PrintWords

/-- A value in one line. -/
def inlineK (a : S25) : ByteArray := if a.f0 = 3 ∧ plainOk a.f2 = true ∧ treeOkK a = true then a.f2 else bracedK a
theorem p_spec (s : ByteArray) (hs : s.size ≤ 1048576) : Ev (fun k => spec_PlainOk.f k s) (plainOk s) := Ev.past (fun k hk => spec_plainOk s (by omega) k hk)
theorem p_impl (s : ByteArray) (hs : s.size ≤ 1048576) : Ev (fun k => impl_PlainOk.f k s) (plainOk s) := Ev.past (fun k hk => impl_plainOk s (by omega) k hk)
theorem spec_inline_ev (a : S25) (ht : totK a ≤ 1048576) : Ev (fun k => spec_Inline.f k a.f0 a.f1 a.f2 a.f3 a.f4) (inlineK a) := by
  have hq := totK_eq a
  have hb : Ev (fun k => (spec_Braced.f k a.f0 a.f1 a.f2 a.f3 a.f4).bind fun t => (some t)) (bracedK a) := Ev.bind (spec_braced_ev a ht) (Ev.now _)
  unfold spec_Inline.f inlineK
  by_cases h3 : a.f0 = 3
  · simp only [h3, if_true, true_and]
    rw [h3] at hb
    have hT := spec_treeOk_ev a ht
    rw [h3] at hT
    refine Ev.bind hT ?_
    cases treeOkK a with
    | false => simp only [and_false, Bool.false_eq_true, if_false]; exact hb
    | true =>
      simp only [and_true, if_true]
      refine Ev.bind (p_spec a.f2 (by omega)) ?_
      cases plainOk a.f2 with
      | false => simp only [Bool.false_eq_true, if_false]; exact hb
      | true => exact Ev.now _
  · simp only [h3, if_false, false_and]
    exact hb
theorem impl_inline_ev (a : S25) (ht : totK a ≤ 1048576) : Ev (fun k => impl_Inline.f k a.f0 a.f1 a.f2 a.f3 a.f4) (inlineK a) := by
  have hq := totK_eq a
  have hb : Ev (fun k => (impl_Braced.f k a.f0 a.f1 a.f2 a.f3 a.f4).bind fun t => (some t)) (bracedK a) := Ev.bind (impl_braced_ev a ht) (Ev.now _)
  unfold impl_Inline.f inlineK
  by_cases h3 : a.f0 = 3
  · simp only [h3, if_true, true_and]
    rw [h3] at hb
    have hT := impl_treeOk_ev a ht
    rw [h3] at hT
    refine Ev.bind (p_impl a.f2 (by omega)) ?_
    cases plainOk a.f2 with
    | false => simp only [Bool.false_eq_true, false_and, if_false]; exact hb
    | true =>
      simp only [true_and, if_true]
      refine Ev.bind hT ?_
      cases treeOkK a with
      | false => simp only [Bool.false_eq_true, if_false]; exact hb
      | true => exact Ev.now _
  · simp only [h3, if_false, false_and]
    exact hb
theorem plain_size {s : ByteArray} (h : plainOk s = true) : s.size ≤ 60 := by
  unfold plainOk plainEnd inB at h
  simp only [Bool.and_eq_true, decide_eq_true_eq] at h
  omega
theorem braced_len (a : S25) : (bl (bracedK a)).length ≤ 2000 * totK a + 850 := by
  unfold bracedK
  by_cases h : treeOkK a = true
  · rw [if_pos h, bl_mk]; exact brF_len _ a (right_of_ok h)
  · rw [if_neg h]; simp [bl]
theorem inline_len (a : S25) : (bl (inlineK a)).length ≤ 2000 * totK a + 850 := by
  unfold inlineK
  split
  · rename_i h
    have := plain_size h.2.1
    rw [← bl_size]
    omega
  · exact braced_len a

/-- The head of a Kid's line. -/
def headL (a : S25) (i : Nat) : List UInt8 := if a.f0 = 4 then [45] else (if plainOk (a.f3.getD i ByteArray.empty) = true then bl (a.f3.getD i ByteArray.empty) else bl (quote (a.f3.getD i ByteArray.empty))) ++ [58]
/-- What stands behind the head. -/
def tailL (f : S25 → Nat → List UInt8) (x : S25) (m : Nat) : List UInt8 := if x.f4.length > 0 then 10 :: f x (m + 2) else 32 :: (bl (inlineK x) ++ [10])
def pieceL (f : S25 → Nat → List UInt8) (a : S25) (m i : Nat) : List UInt8 := List.replicate m 32 ++ (headL a i ++ tailL f (a.f4.getD i z25) m)
def piecesL (f : S25 → Nat → List UInt8) (a : S25) (m n : Nat) : List UInt8 := ((List.range n).map (pieceL f a m)).flatten
theorem piecesL_succ (f : S25 → Nat → List UInt8) (a : S25) (m n : Nat) : piecesL f a m (n + 1) = piecesL f a m n ++ pieceL f a m n := by
  unfold piecesL
  rw [List.range_succ, List.map_append, List.flatten_append]
  simp
/-- A right tree with Kids, so many blanks in. -/
def indF : Nat → S25 → Nat → List UInt8
  | 0, _, _ => []
  | n + 1, a, m => piecesL (indF n) a m a.f4.length
theorem kidD {a : S25} {i : Nat} (hi : i < a.f4.length) : a.f4.getD i z25 = a.f4[i] := by rw [List.getD_eq_getElem?_getD, List.getElem?_eq_getElem hi]; rfl
theorem head_len (a : S25) (i : Nat) : (headL a i).length ≤ 803 := by
  unfold headL
  split
  · simp
  · split
    · rename_i h
      have := plain_size h
      rw [List.length_append, List.length_singleton, ← bl_size]
      omega
    · have := quote_len (a.f3.getD i ByteArray.empty)
      rw [List.length_append, List.length_singleton]
      omega
theorem pieces_len : ∀ (n : Nat) (a : S25) (m : Nat), m + 2 * n ≤ 1000000 → ∀ j, j ≤ a.f4.length → (piecesL (indF n) a m j).length ≤ 1003000 * ((a.f4.map totK).take j).sum + 1003000 * j
  | n, a, m, hm => by
    intro j
    induction j with
    | zero => intro _; simp [piecesL]
    | succ j ih =>
      intro hj
      have hi : j < a.f4.length := by omega
      have h1 := ih (by omega)
      have h2 := head_len a j
      have h3 : (tailL (indF n) a.f4[j] m).length ≤ 1003000 * totK a.f4[j] + 852 := by
        unfold tailL
        split
        · cases n with
          | zero => simp [indF]
          | succ n =>
            have h4 := pieces_len n a.f4[j] (m + 2) (by omega) a.f4[j].f4.length (Nat.le_refl _)
            rw [List.take_of_length_le (by rw [List.length_map]; exact Nat.le_refl _)] at h4
            have := totK_eq a.f4[j]
            simp only [indF, List.length_cons]
            omega
        · have := inline_len a.f4[j]
          simp only [List.length_cons, List.length_append, List.length_nil]
          omega
      rw [piecesL_succ, List.length_append, List.take_succ_eq_append_getElem (by rw [List.length_map]; exact hi), List.sum_append, List.getElem_map]
      simp only [pieceL, List.length_append, List.length_replicate, List.sum_cons, List.sum_nil, kidD hi]
      omega
theorem pieces_len2 (n : Nat) (a : S25) (m : Nat) (hm : m + 2 * n ≤ 1000000) (ht : totK a ≤ 1048576) (j : Nat) (hj : j ≤ a.f4.length) : (piecesL (indF n) a m j).length ≤ 2200000000000 := by
  have h1 := pieces_len n a m hm j hj
  have h2 := sum_take_le (a.f4.map totK) j
  have := totK_eq a
  omega
theorem repeat_blank : ∀ m, Lib.repeatL [32] m = List.replicate m 32
  | 0 => rfl
  | m + 1 => by rw [Lib.repeatL, repeat_blank m]; rfl
theorem repeat_f (m : Nat) (hm : m ≤ 1000000) : strings_Repeat.f ⟨#[32]⟩ (m : Int) = some ⟨(List.replicate m (32 : UInt8)).toArray⟩ := by
  unfold strings_Repeat.f
  have e : (⟨#[32]⟩ : ByteArray).size = 1 := rfl
  have e2 : (⟨#[32]⟩ : ByteArray).data.toList = [32] := rfl
  rw [if_pos (by omega), Int.toNat_natCast, if_pos (by rw [e]; omega), e2, repeat_blank]
theorem plus_size (l : List UInt8) (s : ByteArray) : ((⟨l.toArray⟩ : ByteArray) ++ s).size = l.length + s.size := by rw [ByteArray.size_append', ba_size]
set_option maxHeartbeats 4000000 in
theorem impl_ind_ev (M : Nat) (hM : M ≤ 1000000) : ∀ (n : Nat) (a : S25) (m : Nat), deepK a ≤ n → rightK a = true → totK a ≤ 1048576 → a.f4.length > 0 → m + 2 * n ≤ M → Ev (fun k => impl_indented.f k a.f0 a.f1 a.f2 a.f3 a.f4 (m : Int)) ⟨(indF n a m).toArray⟩
  | 0, a, m, hd, _, _, _, _ => by rw [deepK_eq] at hd; omega
  | n + 1, a, m, hd, hr, ht, hne, hm => by
    have hm2 : m + 2 + 2 * n ≤ M := by omega
    obtain ⟨hkind, hmap, hleaf, b0, b1, hk⟩ := mapsK_of_right hr
    have hq := totK_eq a
    have hl : a.f4.length ≤ 1048576 := by omega
    have h45 : a.f0 = 4 ∨ a.f0 = 5 := by
      by_cases h4 : a.f0 = 4
      · exact .inl h4
      · by_cases h5 : a.f0 = 5
        · exact .inr h5
        · have := hleaf h4 h5; rw [this] at hne; simp at hne
    refine Ev.step (f := fun k => impl_indented.l0 k (m : Int) (⟨#[]⟩ : ByteArray) a.f4 (a.f4.length : Int) 0 a.f0 a.f1 a.f2 a.f3 a.f4) (fun k => by simp only [impl_indented.f]; rw [if_neg (by omega)]) ?_
    simp only [indF]
    refine ev_iter (n := a.f4.length) (l0 := fun k s i => impl_indented.l0 k (m : Int) s a.f4 (a.f4.length : Int) i a.f0 a.f1 a.f2 a.f3 a.f4) (fun i => (⟨(piecesL (indF n) a m i).toArray⟩ : ByteArray)) ?_ (fun i hi r hrr => ?_)
    · exact Ev.step (f := fun _ => some (⟨(piecesL (indF n) a m a.f4.length).toArray⟩ : ByteArray)) (fun k => by simp only [impl_indented.l0]; rw [if_neg (by omega)]) (Ev.now _)
    · have hmem := List.getElem_mem hi
      have hd2 := deepK_kid hmem
      have ht2 := totK_kid hmem
      have hp := pieces_len2 n a m (by omega) ht i (by omega)
      have hh := head_len a i
      rw [piecesL_succ] at hrr
      -- behind the head
      have tail : ∀ x : List UInt8, x.length ≤ 2200001000803 → Ev (fun k => impl_indented.l0 k (m : Int) ⟨(x ++ tailL (indF n) a.f4[i] m).toArray⟩ a.f4 (a.f4.length : Int) ((i + 1 : Nat) : Int) a.f0 a.f1 a.f2 a.f3 a.f4) r → Ev (fun k => impl_indented.j1 k (m : Int) ⟨x.toArray⟩ a.f4 (a.f4.length : Int) (i : Int) a.f0 a.f1 a.f2 a.f3 a.f4 a.f4[i].f0 a.f4[i].f1 a.f4[i].f2 a.f4[i].f3 a.f4[i].f4) r := by
        intro x hx hev
        have ex : (⟨x.toArray⟩ : ByteArray).size = x.length := ba_size _
        by_cases hk4 : (a.f4[i].f4.length : Int) > 0
        · have et : tailL (indF n) a.f4[i] m = 10 :: indF n a.f4[i] (m + 2) := by unfold tailL; rw [if_pos (by omega)]
          have hlen : (indF n a.f4[i] (m + 2)).length ≤ 2200000000000 := by
            cases n with
            | zero => simp [indF]
            | succ n => exact pieces_len2 n _ (m + 2) (by omega) (by omega) _ (Nat.le_refl _)
          have es : (⟨(indF n a.f4[i] (m + 2)).toArray⟩ : ByteArray).size = (indF n a.f4[i] (m + 2)).length := ba_size _
          rw [et] at hev
          have hw : wrap64 ((m : Int) + 2) = ((m + 2 : Nat) : Int) := by rw [w64 (by omega) (by omega)]; omega
          refine Ev.step (f := fun k => (impl_indented.f k a.f4[i].f0 a.f4[i].f1 a.f4[i].f2 a.f4[i].f3 a.f4[i].f4 ((m + 2 : Nat) : Int)).bind fun t1405 => (if 1 + t1405.size ≤ 9223372036854775807 then (if (⟨x.toArray⟩ : ByteArray).size + ((⟨#[10]⟩ : ByteArray) ++ t1405).size ≤ 9223372036854775807 then (impl_indented.l0 k (m : Int) ((⟨x.toArray⟩ : ByteArray) ++ ((⟨#[10]⟩ : ByteArray) ++ t1405)) a.f4 (a.f4.length : Int) ((i + 1 : Nat) : Int) a.f0 a.f1 a.f2 a.f3 a.f4) else (none)) else (none))) (fun k => by simp only [impl_indented.j1]; rw [if_pos hk4, hw, wsucc (by omega)]) ?_
          refine Ev.bind (impl_ind_ev M hM n _ (m + 2) (by omega) (hk _ hmem) (by omega) (by omega) hm2) ?_
          have c1 : 1 + (⟨(indF n a.f4[i] (m + 2)).toArray⟩ : ByteArray).size ≤ 9223372036854775807 := by omega
          have c2 : (⟨x.toArray⟩ : ByteArray).size + ((⟨#[10]⟩ : ByteArray) ++ (⟨(indF n a.f4[i] (m + 2)).toArray⟩ : ByteArray)).size ≤ 9223372036854775807 := by
            rw [ByteArray.size_append', ex, es]
            show _ + (1 + _) ≤ _
            omega
          simp only [c1, c2, if_true]
          have ep : (⟨x.toArray⟩ : ByteArray) ++ ((⟨#[10]⟩ : ByteArray) ++ (⟨(indF n a.f4[i] (m + 2)).toArray⟩ : ByteArray)) = ⟨(x ++ 10 :: indF n a.f4[i] (m + 2)).toArray⟩ := by
            refine bl_inj ?_
            rw [bl_append, bl_append, bl_mk, bl_mk, bl_mk]
            rfl
          rw [ep]
          exact hev
        · have et : tailL (indF n) a.f4[i] m = 32 :: (bl (inlineK a.f4[i]) ++ [10]) := by unfold tailL; rw [if_neg (by omega)]
          have hlen := inline_len a.f4[i]
          rw [← bl_size] at hlen
          rw [et] at hev
          refine Ev.step (f := fun k => (impl_Inline.f k a.f4[i].f0 a.f4[i].f1 a.f4[i].f2 a.f4[i].f3 a.f4[i].f4).bind fun t1406 => (if 1 + t1406.size ≤ 9223372036854775807 then (if ((⟨#[32]⟩ : ByteArray) ++ t1406).size + 1 ≤ 9223372036854775807 then (if (⟨x.toArray⟩ : ByteArray).size + (((⟨#[32]⟩ : ByteArray) ++ t1406) ++ (⟨#[10]⟩ : ByteArray)).size ≤ 9223372036854775807 then (impl_indented.l0 k (m : Int) ((⟨x.toArray⟩ : ByteArray) ++ (((⟨#[32]⟩ : ByteArray) ++ t1406) ++ (⟨#[10]⟩ : ByteArray))) a.f4 (a.f4.length : Int) ((i + 1 : Nat) : Int) a.f0 a.f1 a.f2 a.f3 a.f4) else (none)) else (none)) else (none))) (fun k => by simp only [impl_indented.j1]; rw [if_neg hk4, wsucc (by omega)]) ?_
          refine Ev.bind (impl_inline_ev _ (by omega)) ?_
          have c1 : 1 + (inlineK a.f4[i]).size ≤ 9223372036854775807 := by omega
          have c2 : ((⟨#[32]⟩ : ByteArray) ++ inlineK a.f4[i]).size + 1 ≤ 9223372036854775807 := by
            rw [ByteArray.size_append']
            show 1 + _ + 1 ≤ _
            omega
          have c3 : (⟨x.toArray⟩ : ByteArray).size + (((⟨#[32]⟩ : ByteArray) ++ inlineK a.f4[i]) ++ (⟨#[10]⟩ : ByteArray)).size ≤ 9223372036854775807 := by
            rw [ByteArray.size_append', ByteArray.size_append', ex]
            show _ + (1 + _ + 1) ≤ _
            omega
          simp only [c1, c2, c3, if_true]
          have ep : (⟨x.toArray⟩ : ByteArray) ++ (((⟨#[32]⟩ : ByteArray) ++ inlineK a.f4[i]) ++ (⟨#[10]⟩ : ByteArray)) = ⟨(x ++ 32 :: (bl (inlineK a.f4[i]) ++ [10])).toArray⟩ := by
            refine bl_inj ?_
            rw [bl_append, bl_append, bl_append, bl_mk, bl_mk]
            rfl
          rw [ep]
          exact hev
      have ex : (⟨(piecesL (indF n) a m i).toArray⟩ : ByteArray).size = (piecesL (indF n) a m i).length := ba_size _
      have er : (⟨(List.replicate m (32 : UInt8)).toArray⟩ : ByteArray).size = m := by rw [ba_size, List.length_replicate]
      have c0 : (⟨(piecesL (indF n) a m i).toArray⟩ : ByteArray).size + (⟨(List.replicate m (32 : UInt8)).toArray⟩ : ByteArray).size ≤ 9223372036854775807 := by omega
      -- what stands there, with the head
      have fin : Ev (fun k => impl_indented.j1 k (m : Int) ⟨(piecesL (indF n) a m i ++ (List.replicate m 32 ++ headL a i)).toArray⟩ a.f4 (a.f4.length : Int) (i : Int) a.f0 a.f1 a.f2 a.f3 a.f4 a.f4[i].f0 a.f4[i].f1 a.f4[i].f2 a.f4[i].f3 a.f4[i].f4) r := by
        refine tail _ (by simp only [List.length_append, List.length_replicate]; omega) ?_
        have e2 : piecesL (indF n) a m i ++ (List.replicate m 32 ++ headL a i) ++ tailL (indF n) a.f4[i] m = piecesL (indF n) a m i ++ pieceL (indF n) a m i := by
          unfold pieceL
          rw [kidD hi]
          simp only [List.append_assoc]
        rw [e2]
        exact hrr
      rcases h45 with h4 | h5
      · refine Ev.step (f := fun k => impl_indented.j1 k (m : Int) ⟨(piecesL (indF n) a m i ++ (List.replicate m 32 ++ headL a i)).toArray⟩ a.f4 (a.f4.length : Int) (i : Int) a.f0 a.f1 a.f2 a.f3 a.f4 a.f4[i].f0 a.f4[i].f1 a.f4[i].f2 a.f4[i].f3 a.f4[i].f4) (fun k => ?_) fin
        have ep : ((⟨(piecesL (indF n) a m i).toArray⟩ : ByteArray) ++ (⟨(List.replicate m (32 : UInt8)).toArray⟩ : ByteArray)) ++ (⟨#[45]⟩ : ByteArray) = ⟨(piecesL (indF n) a m i ++ (List.replicate m 32 ++ headL a i)).toArray⟩ := by
          refine bl_inj ?_
          rw [bl_append, bl_append, bl_mk, bl_mk, bl_mk]
          unfold headL
          rw [if_pos h4, List.append_assoc]
          rfl
        simp only [impl_indented.l0]
        rw [if_pos (by omega), if_pos (by omega), if_pos (by omega), repeat_f m (by omega), Option.bind_some, if_pos c0, if_pos h4, if_pos (by rw [ByteArray.size_append', ex, er]; omega), rdK _ _ hi, ep]
      · have h4 : ¬ a.f0 = 4 := by omega
        have hi3 : i < a.f3.length := by rw [hmap h5]; exact hi
        have hks := key_sz a ht i hi3
        have hql := quote_len (a.f3.getD i ByteArray.empty)
        rw [← bl_size] at hql
        refine Ev.step (f := fun k => (impl_PlainOk.f k (a.f3.getD i ByteArray.empty)).bind fun t1401 => (if t1401 = true then (impl_indented.j1 k (m : Int) (((⟨(piecesL (indF n) a m i).toArray⟩ : ByteArray) ++ (⟨(List.replicate m (32 : UInt8)).toArray⟩ : ByteArray)) ++ (a.f3.getD i ByteArray.empty ++ (⟨#[58]⟩ : ByteArray))) a.f4 (a.f4.length : Int) (i : Int) a.f0 a.f1 a.f2 a.f3 a.f4 a.f4[i].f0 a.f4[i].f1 a.f4[i].f2 a.f4[i].f3 a.f4[i].f4) else ((impl_Quote.f k (a.f3.getD i ByteArray.empty)).bind fun t1404 => (if t1404.size + 1 ≤ 9223372036854775807 then (if ((⟨(piecesL (indF n) a m i).toArray⟩ : ByteArray) ++ (⟨(List.replicate m (32 : UInt8)).toArray⟩ : ByteArray)).size + (t1404 ++ (⟨#[58]⟩ : ByteArray)).size ≤ 9223372036854775807 then (impl_indented.j1 k (m : Int) (((⟨(piecesL (indF n) a m i).toArray⟩ : ByteArray) ++ (⟨(List.replicate m (32 : UInt8)).toArray⟩ : ByteArray)) ++ (t1404 ++ (⟨#[58]⟩ : ByteArray))) a.f4 (a.f4.length : Int) (i : Int) a.f0 a.f1 a.f2 a.f3 a.f4 a.f4[i].f0 a.f4[i].f1 a.f4[i].f2 a.f4[i].f3 a.f4[i].f4) else (none)) else (none))))) (fun k => ?_) ?_
        · simp only [impl_indented.l0]
          rw [if_pos (by omega), if_pos (by omega), if_pos (by omega), repeat_f m (by omega), Option.bind_some, if_pos c0, if_neg h4, if_pos (by omega), rdB]
          congr 1
          funext t
          have c5 : (a.f3.getD i ByteArray.empty).size + 1 ≤ 9223372036854775807 := by omega
          have c6 : ((⟨(piecesL (indF n) a m i).toArray⟩ : ByteArray) ++ (⟨(List.replicate m (32 : UInt8)).toArray⟩ : ByteArray)).size + (a.f3.getD i ByteArray.empty ++ (⟨#[58]⟩ : ByteArray)).size ≤ 9223372036854775807 := by
            rw [ByteArray.size_append', ByteArray.size_append', ex, er]
            show _ + (_ + 1) ≤ _
            omega
          rw [if_pos c5, if_pos c6, rdK _ _ hi]
        · refine Ev.bind (p_impl _ hks) ?_
          by_cases hpl : plainOk (a.f3.getD i ByteArray.empty) = true
          · simp only [hpl, if_true]
            have ep : ((⟨(piecesL (indF n) a m i).toArray⟩ : ByteArray) ++ (⟨(List.replicate m (32 : UInt8)).toArray⟩ : ByteArray)) ++ (a.f3.getD i ByteArray.empty ++ (⟨#[58]⟩ : ByteArray)) = ⟨(piecesL (indF n) a m i ++ (List.replicate m 32 ++ headL a i)).toArray⟩ := by
              refine bl_inj ?_
              rw [bl_append, bl_append, bl_append, bl_mk, bl_mk, bl_mk]
              unfold headL
              rw [if_neg h4, if_pos hpl, List.append_assoc]
              rfl
            rw [ep]
            exact fin
          · simp only [hpl]
            refine Ev.bind (q_impl _ hks) ?_
            have c1 : (quote (a.f3.getD i ByteArray.empty)).size + 1 ≤ 9223372036854775807 := by omega
            have c2 : ((⟨(piecesL (indF n) a m i).toArray⟩ : ByteArray) ++ (⟨(List.replicate m (32 : UInt8)).toArray⟩ : ByteArray)).size + (quote (a.f3.getD i ByteArray.empty) ++ (⟨#[58]⟩ : ByteArray)).size ≤ 9223372036854775807 := by
              rw [ByteArray.size_append', ByteArray.size_append', ex, er]
              show _ + (_ + 1) ≤ _
              omega
            simp only [c1, c2, if_true]
            have ep : ((⟨(piecesL (indF n) a m i).toArray⟩ : ByteArray) ++ (⟨(List.replicate m (32 : UInt8)).toArray⟩ : ByteArray)) ++ (quote (a.f3.getD i ByteArray.empty) ++ (⟨#[58]⟩ : ByteArray)) = ⟨(piecesL (indF n) a m i ++ (List.replicate m 32 ++ headL a i)).toArray⟩ := by
              refine bl_inj ?_
              rw [bl_append, bl_append, bl_append, bl_mk, bl_mk, bl_mk]
              unfold headL
              rw [if_neg h4, if_neg hpl, List.append_assoc]
              rfl
            rw [ep]
            exact fin
theorem block_f {a : S25} (h : rightK a = true) : spec_l5Block.f a.f0 a.f1 a.f2 a.f3 a.f4 = some (decide ((a.f4.length : Int) > 0)) := by
  obtain ⟨_, _, hleaf, _, _, _⟩ := mapsK_of_right h
  unfold spec_l5Block.f
  by_cases h4 : a.f0 = 4
  · rw [if_pos h4]
  · rw [if_neg h4]
    by_cases h5 : a.f0 = 5
    · rw [if_pos h5]
    · rw [if_neg h5, hleaf h4 h5]
      rfl
theorem blank_more (m : Nat) : (⟨(List.replicate m (32 : UInt8)).toArray⟩ : ByteArray) ++ (⟨#[32, 32]⟩ : ByteArray) = ⟨(List.replicate (m + 2) (32 : UInt8)).toArray⟩ := by
  refine bl_inj ?_
  rw [bl_append, bl_mk, bl_mk, ← List.replicate_append_replicate]
  rfl
set_option maxHeartbeats 4000000 in
theorem spec_ind_ev (M : Nat) (hM : M ≤ 1000000) : ∀ (n : Nat) (a : S25) (m : Nat), deepK a ≤ n → rightK a = true → totK a ≤ 1048576 → a.f4.length > 0 → m + 2 * n ≤ M → Ev (fun k => spec_l5Write.f k a.f0 a.f1 a.f2 a.f3 a.f4 ⟨(List.replicate m (32 : UInt8)).toArray⟩) ⟨(indF n a m).toArray⟩
  | 0, a, m, hd, _, _, _, _ => by rw [deepK_eq] at hd; omega
  | n + 1, a, m, hd, hr, ht, hne, hm => by
    have hm2 : m + 2 + 2 * n ≤ M := by omega
    have hm3 : m + 2 * n ≤ 1000000 := by omega
    have hm4 : m + 2 + 2 * n ≤ 1000000 := by omega
    obtain ⟨hkind, hmap, hleaf, b0, b1, hk⟩ := mapsK_of_right hr
    have hq := totK_eq a
    have hl : a.f4.length ≤ 1048576 := by omega
    have h45 : a.f0 = 4 ∨ a.f0 = 5 := by
      by_cases h4 : a.f0 = 4
      · exact .inl h4
      · by_cases h5 : a.f0 = 5
        · exact .inr h5
        · have := hleaf h4 h5; rw [this] at hne; simp at hne
    refine Ev.step (f := fun k => spec_l5Write.l0 k ⟨(List.replicate m (32 : UInt8)).toArray⟩ (⟨#[]⟩ : ByteArray) 0 a.f0 a.f1 a.f2 a.f3 a.f4) (fun k => by simp only [spec_l5Write.f]) ?_
    simp only [indF]
    refine ev_iter (n := a.f4.length) (l0 := fun k s i => spec_l5Write.l0 k ⟨(List.replicate m (32 : UInt8)).toArray⟩ s i a.f0 a.f1 a.f2 a.f3 a.f4) (fun i => (⟨(piecesL (indF n) a m i).toArray⟩ : ByteArray)) ?_ (fun i hi r hrr => ?_)
    · exact Ev.step (f := fun _ => some (⟨(piecesL (indF n) a m a.f4.length).toArray⟩ : ByteArray)) (fun k => by simp only [spec_l5Write.l0]; rw [if_neg (by omega)]) (Ev.now _)
    · have hmem := List.getElem_mem hi
      have hd2 := deepK_kid hmem
      have ht2 := totK_kid hmem
      have hp := pieces_len2 n a m hm3 ht i (by omega)
      rw [piecesL_succ] at hrr
      have ex : (⟨(piecesL (indF n) a m i).toArray⟩ : ByteArray).size = (piecesL (indF n) a m i).length := ba_size _
      have er : (⟨(List.replicate m (32 : UInt8)).toArray⟩ : ByteArray).size = m := by rw [ba_size, List.length_replicate]
      -- behind the head
      have tail : ∀ y : ByteArray, bl y = headL a i → Ev (fun k => spec_l5Write.j1 k ⟨(List.replicate m (32 : UInt8)).toArray⟩ ⟨(piecesL (indF n) a m i).toArray⟩ (i : Int) y a.f0 a.f1 a.f2 a.f3 a.f4) r := by
        intro y hy
        have hh := head_len a i
        rw [← hy, ← bl_size] at hh
        have c0 : (⟨(piecesL (indF n) a m i).toArray⟩ : ByteArray).size + (⟨(List.replicate m (32 : UInt8)).toArray⟩ : ByteArray).size ≤ 9223372036854775807 := by omega
        have z1 : ((⟨(piecesL (indF n) a m i).toArray⟩ : ByteArray) ++ (⟨(List.replicate m (32 : UInt8)).toArray⟩ : ByteArray)).size = (piecesL (indF n) a m i).length + m := by rw [ByteArray.size_append', ex, er]
        have z2 : (((⟨(piecesL (indF n) a m i).toArray⟩ : ByteArray) ++ (⟨(List.replicate m (32 : UInt8)).toArray⟩ : ByteArray)) ++ y).size = (piecesL (indF n) a m i).length + m + y.size := by rw [ByteArray.size_append', z1]
        have c1 : ((⟨(piecesL (indF n) a m i).toArray⟩ : ByteArray) ++ (⟨(List.replicate m (32 : UInt8)).toArray⟩ : ByteArray)).size + y.size ≤ 9223372036854775807 := by omega
        have c2 : (((⟨(piecesL (indF n) a m i).toArray⟩ : ByteArray) ++ (⟨(List.replicate m (32 : UInt8)).toArray⟩ : ByteArray)) ++ y).size + 1 ≤ 9223372036854775807 := by omega
        have c3 : (⟨(List.replicate m (32 : UInt8)).toArray⟩ : ByteArray).size + 2 ≤ 9223372036854775807 := by omega
        by_cases hk4 : (a.f4[i].f4.length : Int) > 0
        · have hk5 : a.f4[i].f4.length > 0 := by omega
          have et : tailL (indF n) a.f4[i] m = 10 :: indF n a.f4[i] (m + 2) := by unfold tailL; rw [if_pos hk5]
          have hlen : (indF n a.f4[i] (m + 2)).length ≤ 2200000000000 := by
            cases n with
            | zero => simp [indF]
            | succ n => exact pieces_len2 n _ (m + 2) (by omega) (by omega) _ (Nat.le_refl _)
          have es : (⟨(indF n a.f4[i] (m + 2)).toArray⟩ : ByteArray).size = (indF n a.f4[i] (m + 2)).length := ba_size _
          refine Ev.step (f := fun k => (spec_l5Write.f k a.f4[i].f0 a.f4[i].f1 a.f4[i].f2 a.f4[i].f3 a.f4[i].f4 ⟨(List.replicate (m + 2) (32 : UInt8)).toArray⟩).bind fun t1387 => (if ((((⟨(piecesL (indF n) a m i).toArray⟩ : ByteArray) ++ (⟨(List.replicate m (32 : UInt8)).toArray⟩ : ByteArray)) ++ y) ++ (⟨#[10]⟩ : ByteArray)).size + t1387.size ≤ 9223372036854775807 then (spec_l5Write.l0 k ⟨(List.replicate m (32 : UInt8)).toArray⟩ (((((⟨(piecesL (indF n) a m i).toArray⟩ : ByteArray) ++ (⟨(List.replicate m (32 : UInt8)).toArray⟩ : ByteArray)) ++ y) ++ (⟨#[10]⟩ : ByteArray)) ++ t1387) ((i + 1 : Nat) : Int) a.f0 a.f1 a.f2 a.f3 a.f4) else (none))) (fun k => by
            simp only [spec_l5Write.j1]
            rw [if_pos c0, if_pos c1, if_pos (by omega), if_pos (by omega), rdK _ _ hi, block_f (hk _ hmem), Option.bind_some, decide_eq_true hk4, if_pos rfl, if_pos c2, if_pos c3, blank_more, wsucc (by omega)]) ?_
          refine Ev.bind (spec_ind_ev M hM n _ (m + 2) (by omega) (hk _ hmem) (by omega) hk5 hm2) ?_
          have c4 : ((((⟨(piecesL (indF n) a m i).toArray⟩ : ByteArray) ++ (⟨(List.replicate m (32 : UInt8)).toArray⟩ : ByteArray)) ++ y) ++ (⟨#[10]⟩ : ByteArray)).size + (⟨(indF n a.f4[i] (m + 2)).toArray⟩ : ByteArray).size ≤ 9223372036854775807 := by
            rw [ByteArray.size_append', z2, es]
            show _ + 1 + _ ≤ _
            omega
          simp only [c4, if_true]
          have ep : ((((⟨(piecesL (indF n) a m i).toArray⟩ : ByteArray) ++ (⟨(List.replicate m (32 : UInt8)).toArray⟩ : ByteArray)) ++ y) ++ (⟨#[10]⟩ : ByteArray)) ++ (⟨(indF n a.f4[i] (m + 2)).toArray⟩ : ByteArray) = ⟨(piecesL (indF n) a m i ++ pieceL (indF n) a m i).toArray⟩ := by
            refine bl_inj ?_
            rw [bl_append, bl_append, bl_append, bl_append, hy, bl_mk (piecesL (indF n) a m i), bl_mk (List.replicate m (32 : UInt8)), bl_mk (indF n a.f4[i] (m + 2)), bl_mk (piecesL (indF n) a m i ++ pieceL (indF n) a m i)]
            unfold pieceL
            rw [kidD hi, et]
            simp only [List.append_assoc]
            rfl
          rw [ep]
          exact hrr
        · have et : tailL (indF n) a.f4[i] m = 32 :: (bl (inlineK a.f4[i]) ++ [10]) := by unfold tailL; rw [if_neg (by omega)]
          have hlen := inline_len a.f4[i]
          rw [← bl_size] at hlen
          refine Ev.step (f := fun k => (spec_Inline.f k a.f4[i].f0 a.f4[i].f1 a.f4[i].f2 a.f4[i].f3 a.f4[i].f4).bind fun t1389 => (if ((((⟨(piecesL (indF n) a m i).toArray⟩ : ByteArray) ++ (⟨(List.replicate m (32 : UInt8)).toArray⟩ : ByteArray)) ++ y) ++ (⟨#[32]⟩ : ByteArray)).size + t1389.size ≤ 9223372036854775807 then (if (((((⟨(piecesL (indF n) a m i).toArray⟩ : ByteArray) ++ (⟨(List.replicate m (32 : UInt8)).toArray⟩ : ByteArray)) ++ y) ++ (⟨#[32]⟩ : ByteArray)) ++ t1389).size + 1 ≤ 9223372036854775807 then (spec_l5Write.l0 k ⟨(List.replicate m (32 : UInt8)).toArray⟩ ((((((⟨(piecesL (indF n) a m i).toArray⟩ : ByteArray) ++ (⟨(List.replicate m (32 : UInt8)).toArray⟩ : ByteArray)) ++ y) ++ (⟨#[32]⟩ : ByteArray)) ++ t1389) ++ (⟨#[10]⟩ : ByteArray)) ((i + 1 : Nat) : Int) a.f0 a.f1 a.f2 a.f3 a.f4) else (none)) else (none))) (fun k => by
            simp only [spec_l5Write.j1]
            rw [if_pos c0, if_pos c1, if_pos (by omega), if_pos (by omega), rdK _ _ hi, block_f (hk _ hmem), Option.bind_some, decide_eq_false hk4, if_neg (by decide), if_pos c2, wsucc (by omega)]) ?_
          refine Ev.bind (spec_inline_ev _ (by omega)) ?_
          have c4 : ((((⟨(piecesL (indF n) a m i).toArray⟩ : ByteArray) ++ (⟨(List.replicate m (32 : UInt8)).toArray⟩ : ByteArray)) ++ y) ++ (⟨#[32]⟩ : ByteArray)).size + (inlineK a.f4[i]).size ≤ 9223372036854775807 := by
            rw [ByteArray.size_append', z2]
            show _ + 1 + _ ≤ _
            omega
          have c5 : (((((⟨(piecesL (indF n) a m i).toArray⟩ : ByteArray) ++ (⟨(List.replicate m (32 : UInt8)).toArray⟩ : ByteArray)) ++ y) ++ (⟨#[32]⟩ : ByteArray)) ++ inlineK a.f4[i]).size + 1 ≤ 9223372036854775807 := by
            rw [ByteArray.size_append', ByteArray.size_append', z2]
            show _ + 1 + _ + 1 ≤ _
            omega
          simp only [c4, c5, if_true]
          have ep : (((((⟨(piecesL (indF n) a m i).toArray⟩ : ByteArray) ++ (⟨(List.replicate m (32 : UInt8)).toArray⟩ : ByteArray)) ++ y) ++ (⟨#[32]⟩ : ByteArray)) ++ inlineK a.f4[i]) ++ (⟨#[10]⟩ : ByteArray) = ⟨(piecesL (indF n) a m i ++ pieceL (indF n) a m i).toArray⟩ := by
            refine bl_inj ?_
            rw [bl_append, bl_append, bl_append, bl_append, bl_append, hy, bl_mk (piecesL (indF n) a m i), bl_mk (List.replicate m (32 : UInt8)), bl_mk (piecesL (indF n) a m i ++ pieceL (indF n) a m i)]
            unfold pieceL
            rw [kidD hi, et]
            simp only [List.append_assoc]
            rfl
          rw [ep]
          exact hrr
      rcases h45 with h4 | h5
      · have h5 : ¬ a.f0 = 5 := by omega
        refine Ev.step (fun k => by simp only [spec_l5Write.l0]; rw [if_pos (show (i : Int) < (a.f4.length : Int) by omega), if_neg h5]) (tail ⟨#[45]⟩ (by unfold headL; rw [if_pos h4]; rfl))
      · have h4 : ¬ a.f0 = 4 := by omega
        have hi3 : i < a.f3.length := by rw [hmap h5]; exact hi
        have hks := key_sz a ht i hi3
        have hql := quote_len (a.f3.getD i ByteArray.empty)
        rw [← bl_size] at hql
        refine Ev.step (f := fun k => (spec_Quote.f k (a.f3.getD i ByteArray.empty)).bind fun t1380 => (if t1380.size + 1 ≤ 9223372036854775807 then ((spec_PlainOk.f k (a.f3.getD i ByteArray.empty)).bind fun t1382 => (if t1382 = true then (spec_l5Write.j1 k ⟨(List.replicate m (32 : UInt8)).toArray⟩ ⟨(piecesL (indF n) a m i).toArray⟩ (i : Int) (a.f3.getD i ByteArray.empty ++ (⟨#[58]⟩ : ByteArray)) a.f0 a.f1 a.f2 a.f3 a.f4) else (spec_l5Write.j1 k ⟨(List.replicate m (32 : UInt8)).toArray⟩ ⟨(piecesL (indF n) a m i).toArray⟩ (i : Int) (t1380 ++ (⟨#[58]⟩ : ByteArray)) a.f0 a.f1 a.f2 a.f3 a.f4))) else (none))) (fun k => by
          have c5 : (a.f3.getD i ByteArray.empty).size + 1 ≤ 9223372036854775807 := by omega
          simp only [spec_l5Write.l0]
          rw [if_pos (by omega), if_pos h5, if_pos (by omega), if_pos (by omega), rdB]
          simp only [c5, if_true]) ?_
        refine Ev.bind (q_spec _ hks) ?_
        have c1 : (quote (a.f3.getD i ByteArray.empty)).size + 1 ≤ 9223372036854775807 := by omega
        simp only [c1, if_true]
        refine Ev.bind (p_spec _ hks) ?_
        by_cases hpl : plainOk (a.f3.getD i ByteArray.empty) = true
        · simp only [hpl, if_true]
          exact tail _ (by unfold headL; rw [if_neg h4, if_pos hpl, bl_append]; rfl)
        · simp only [hpl]
          exact tail _ (by unfold headL; rw [if_neg h4, if_neg hpl, bl_append]; rfl)
/-- A tree's indented text; nothing where the tree is not right. -/
def indentedK (a : S25) : ByteArray := if treeOkK a = true then (if a.f4.length > 0 then ⟨(indF (deepK a) a 0).toArray⟩ else inlineK a ++ ⟨#[10]⟩) else ⟨#[]⟩
theorem spec_indented_ev (a : S25) (ht : totK a ≤ 1048576) : Ev (fun k => spec_Indented.f k a.f0 a.f1 a.f2 a.f3 a.f4) (indentedK a) := by
  unfold spec_Indented.f indentedK
  have hlen := inline_len a
  rw [← bl_size] at hlen
  have hdl := deepK_le a
  refine Ev.bind (spec_treeOk_ev a ht) ?_
  by_cases h : treeOkK a = true
  · have hd8 : deepK a ≤ 8 := by unfold treeOkK at h; simp only [Bool.and_eq_true, decide_eq_true_eq] at h; exact h.1.1
    simp only [h, if_true, block_f (right_of_ok h), Option.bind_some]
    by_cases hk : a.f4.length > 0
    · simp only [show (a.f4.length : Int) > 0 from by omega, decide_true, if_true, hk]
      exact Ev.bind (spec_ind_ev 1000 (by omega) _ a 0 (Nat.le_refl _) (right_of_ok h) ht hk (by omega)) (Ev.now _)
    · simp only [show ¬ (a.f4.length : Int) > 0 from by omega, decide_false, Bool.false_eq_true, if_false, hk]
      refine Ev.bind (spec_inline_ev a ht) ?_
      simp only [show (inlineK a).size + 1 ≤ 9223372036854775807 from by omega, if_true]
      exact Ev.now _
  · simp only [h]
    exact Ev.now _
theorem impl_indented_ev (a : S25) (ht : totK a ≤ 1048576) : Ev (fun k => impl_Indented.f k a.f0 a.f1 a.f2 a.f3 a.f4) (indentedK a) := by
  unfold impl_Indented.f indentedK
  have hlen := inline_len a
  rw [← bl_size] at hlen
  refine Ev.bind (impl_treeOk_ev a ht) ?_
  by_cases h : treeOkK a = true
  · have hd8 : deepK a ≤ 8 := by unfold treeOkK at h; simp only [Bool.and_eq_true, decide_eq_true_eq] at h; exact h.1.1
    simp only [h, if_true]
    by_cases hk : a.f4.length > 0
    · simp only [hk, if_true]
      exact Ev.bind (impl_ind_ev 1000 (by omega) _ a 0 (Nat.le_refl _) (right_of_ok h) ht hk (by omega)) (Ev.now _)
    · simp only [hk, if_false]
      refine Ev.bind (g := fun k => impl_indented.f k a.f0 a.f1 a.f2 a.f3 a.f4 0) ?_ (Ev.now _)
      refine Ev.step (f := fun k => (impl_Inline.f k a.f0 a.f1 a.f2 a.f3 a.f4).bind fun t1396 => (if t1396.size + 1 ≤ 9223372036854775807 then (some (t1396 ++ (⟨#[10]⟩ : ByteArray))) else (none))) (fun k => by simp only [impl_indented.f]; rw [if_pos (by omega)]) ?_
      refine Ev.bind (impl_inline_ev a ht) ?_
      simp only [show (inlineK a).size + 1 ≤ 9223372036854775807 from by omega, if_true]
      exact Ev.now _
  · simp only [h]
    exact Ev.now _
end Go.Proofs.Ytnbnpgjgibcmpaa.M
