/- The program's OrderSame and the reference's are one function. -/
import Derived.Test.YtjkanclhlnojhaaAid
import Derived.Test.YtjkanclhlnojhaaBytes
import Derived.Test.YtjkanclhlnojhaaLists
import Derived.Test.YtjkanclhlnojhaaOrder
import Derived.Test.YtjkanclhlnojhaaP_impl_OrderSame
import Derived.Test.YtjkanclhlnojhaaP_spec_OrderSame
import Derived.Test.YtjkanclhlnojhaaShare
namespace Go.Proofs.Ytjkanclhlnojhaa.M
open Go.RowKit Go.Proofs.Ytjkanclhlnojhaa.P Go.Proofs.YtjkanclhlnojhaaW.PrintWords

def nM (a b : S35) : Bool := (!(a.f0.toList == b.f0.toList) || (!(a.f1 == b.f1) || (!(a.f2 == b.f2))))
def nN (a b : S94) : Bool := (!(a.f0.toList == b.f0.toList) || (!(a.f1.toList == b.f1.toList)))
def zM (xs ys : List S35) (i : Nat) : Bool := !nM (rd_T35 xs i) (rd_T35 ys i)
def zN (xs ys : List S94) (i : Nat) : Bool := !nN (rd_T94 xs i) (rd_T94 ys i)
def sameM (xs ys : List S35) : Bool := decide (xs.length = ys.length) && (List.range' 0 xs.length).all (zM xs ys)
def sameN (xs ys : List S94) : Bool := decide (xs.length = ys.length) && (List.range' 0 xs.length).all (zN xs ys)
theorem impl_sameM (xs ys : List S35) (hl : xs.length ≤ 1048576) (k : Nat) (hk : xs.length < k) : impl_Metric.f k xs ys = some (sameM xs ys) := by
  unfold impl_Metric.f sameM
  by_cases h : xs.length = ys.length
  · rw [if_pos (by omega), decide_eq_true h, Bool.true_and]
    have e := scanK (g := fun k i => impl_Metric.l0 k xs ys (xs.length : Int) i) (n := xs.length) (K := 0) (P := zM xs ys) (e := true) (fun k _ => by simp only [impl_Metric.l0]; rw [if_neg (by omega)])
      (fun k i _ hi => by
        simp only [impl_Metric.l0]
        rw [if_pos (by omega), if_pos (by omega), if_pos (by omega), if_pos (by omega), wsucc (by omega)]
        show (if nM (rd_T35 xs i) (rd_T35 ys i) = true then _ else _) = if (!nM (rd_T35 xs i) (rd_T35 ys i)) = true then _ else _
        cases nM (rd_T35 xs i) (rd_T35 ys i) <;> rfl) xs.length 0 k (by omega) (by omega)
    have e0 : ((0 : Nat) : Int) = 0 := rfl
    rw [e0] at e
    rw [e, Bool.and_true]
  · rw [if_neg (by omega), decide_eq_false h, Bool.false_and]
theorem impl_sameN (xs ys : List S94) (hl : xs.length ≤ 1048576) (k : Nat) (hk : xs.length < k) : impl_Note.f k xs ys = some (sameN xs ys) := by
  unfold impl_Note.f sameN
  by_cases h : xs.length = ys.length
  · rw [if_pos (by omega), decide_eq_true h, Bool.true_and]
    have e := scanK (g := fun k i => impl_Note.l0 k xs ys (xs.length : Int) i) (n := xs.length) (K := 0) (P := zN xs ys) (e := true) (fun k _ => by simp only [impl_Note.l0]; rw [if_neg (by omega)])
      (fun k i _ hi => by
        simp only [impl_Note.l0]
        rw [if_pos (by omega), if_pos (by omega), if_pos (by omega), if_pos (by omega), wsucc (by omega)]
        show (if nN (rd_T94 xs i) (rd_T94 ys i) = true then _ else _) = if (!nN (rd_T94 xs i) (rd_T94 ys i)) = true then _ else _
        cases nN (rd_T94 xs i) (rd_T94 ys i) <;> rfl) xs.length 0 k (by omega) (by omega)
    have e0 : ((0 : Nat) : Int) = 0 := rfl
    rw [e0] at e
    rw [e, Bool.and_true]
  · rw [if_neg (by omega), decide_eq_false h, Bool.false_and]
theorem orderSame_eq (n t : ByteArray) (lo hi : Int) (ms : List S35) (p0 p1 p2 p3 : Int) (ns : List S94) (n' t' : ByteArray) (lo' hi' : Int) (ms' : List S35) (p0' p1' p2' p3' : Int) (ns' : List S94)
    (h1 : ms.length ≤ 1048576) (h2 : ns.length ≤ 1048576) (k : Nat) (hk : ms.length + ns.length + 3 < k) :
    ∃ b, impl_OrderSame.f k n t lo hi ms p0 p1 p2 p3 ns n' t' lo' hi' ms' p0' p1' p2' p3' ns' = some b ∧ spec_OrderSame.f k n t lo hi ms p0 p1 p2 p3 ns n' t' lo' hi' ms' p0' p1' p2' p3' ns' = some b := by
  have jT : ∀ k, spec_OrderSame.j0 (k + 1) true n t lo hi ms p0 p1 p2 p3 ns n' t' lo' hi' ms' p0' p1' p2' p3' ns' = some false := by
    intro k; simp only [spec_OrderSame.j0, if_true]
  have jF : ∀ k, spec_OrderSame.j0 (k + 1) false n t lo hi ms p0 p1 p2 p3 ns n' t' lo' hi' ms' p0' p1' p2' p3' ns' = spec_OrderSame.l0 k 0 n t lo hi ms p0 p1 p2 p3 ns n' t' lo' hi' ms' p0' p1' p2' p3' ns' := by
    intro k; simp only [spec_OrderSame.j0, Bool.false_eq_true, if_false]
  have l1e : ns.length = ns'.length → ∀ k, ns.length < k → spec_OrderSame.l1 k 0 n t lo hi ms p0 p1 p2 p3 ns n' t' lo' hi' ms' p0' p1' p2' p3' ns' = some (sameN ns ns') := by
    intro h k hk
    have e := scanK (g := fun k i => spec_OrderSame.l1 k i n t lo hi ms p0 p1 p2 p3 ns n' t' lo' hi' ms' p0' p1' p2' p3' ns') (n := ns.length) (K := 0) (P := zN ns ns') (e := true) (fun k _ => by simp only [spec_OrderSame.l1]; rw [if_neg (by omega)])
      (fun k i _ hi => by
        simp only [spec_OrderSame.l1]
        rw [if_pos (by omega), if_pos (by omega), if_pos (by omega), wsucc (by omega)]
        show (if nN (rd_T94 ns i) (rd_T94 ns' i) = true then _ else _) = if (!nN (rd_T94 ns i) (rd_T94 ns' i)) = true then _ else _
        cases nN (rd_T94 ns i) (rd_T94 ns' i) <;> rfl) ns.length 0 k (by omega) (by omega)
    have e0 : ((0 : Nat) : Int) = 0 := rfl
    rw [e0] at e
    rw [e, Bool.and_true]
    unfold sameN
    rw [decide_eq_true h, Bool.true_and]
  have l0e : ms.length = ms'.length → ns.length = ns'.length → ∀ k, ms.length + ns.length + 1 < k → spec_OrderSame.l0 k 0 n t lo hi ms p0 p1 p2 p3 ns n' t' lo' hi' ms' p0' p1' p2' p3' ns' = some (sameM ms ms' && sameN ns ns') := by
    intro h h' k hk
    have e := scanK (g := fun k i => spec_OrderSame.l0 k i n t lo hi ms p0 p1 p2 p3 ns n' t' lo' hi' ms' p0' p1' p2' p3' ns') (n := ms.length) (K := ns.length + 1) (P := zM ms ms') (e := sameN ns ns') (fun k hk => by simp only [spec_OrderSame.l0]; rw [if_neg (by omega), l1e h' k (by omega)])
      (fun k i _ hi => by
        simp only [spec_OrderSame.l0]
        rw [if_pos (by omega), if_pos (by omega), if_pos (by omega), wsucc (by omega)]
        show (if nM (rd_T35 ms i) (rd_T35 ms' i) = true then _ else _) = if (!nM (rd_T35 ms i) (rd_T35 ms' i)) = true then _ else _
        cases nM (rd_T35 ms i) (rd_T35 ms' i) <;> rfl) ms.length 0 k (by omega) (by omega)
    have e0 : ((0 : Nat) : Int) = 0 := rfl
    rw [e0] at e
    rw [e]
    unfold sameM
    rw [decide_eq_true h, Bool.true_and]
  obtain ⟨k, rfl⟩ : ∃ m, k = m + 1 := ⟨k - 1, by omega⟩
  unfold impl_OrderSame.f spec_OrderSame.f
  simp only [impl_sameM ms ms' h1 (k + 1) (by omega), impl_sameN ns ns' h2 (k + 1) (by omega), Option.bind_some, jT]
  by_cases c1 : n.toList = n'.toList
  · by_cases c2 : t.toList = t'.toList
    · by_cases c3 : lo = lo'
      · by_cases c4 : hi = hi'
        · subst c3; subst c4
          simp only [c1, c2, if_true]
          cases hp : (p0 == p0' && (p1 == p1' && (p2 == p2' && (p3 == p3'))))
          · have hp' : (!(p0 == p0') || (!(p1 == p1') || (!(p2 == p2') || (!(p3 == p3'))))) = true := by
              revert hp; cases (p0 == p0') <;> cases (p1 == p1') <;> cases (p2 == p2') <;> cases (p3 == p3') <;> simp
            refine ⟨false, ?_, ?_⟩
            · cases sameM ms ms' <;> simp
            · rw [if_pos hp']
          · have hp' : ¬ (!(p0 == p0') || (!(p1 == p1') || (!(p2 == p2') || (!(p3 == p3'))))) = true := by
              revert hp; cases (p0 == p0') <;> cases (p1 == p1') <;> cases (p2 == p2') <;> cases (p3 == p3') <;> simp
            rw [if_neg hp']
            refine ⟨sameM ms ms' && sameN ns ns', ?_, ?_⟩
            · cases sameM ms ms' <;> simp
            · by_cases c5 : ms.length = ms'.length
              · rw [if_pos (by omega)]
                by_cases c6 : ns.length = ns'.length
                · have e : ((ns.length : Int) != (ns'.length : Int)) = false := by simp [c6]
                  rw [e, jF, l0e c5 c6 k (by omega)]
                · have e : ((ns.length : Int) != (ns'.length : Int)) = true := by simp; omega
                  have e2 : sameN ns ns' = false := by unfold sameN; rw [decide_eq_false c6, Bool.false_and]
                  rw [e, jT, e2, Bool.and_false]
              · have e2 : sameM ms ms' = false := by unfold sameM; rw [decide_eq_false c5, Bool.false_and]
                rw [if_neg (by omega), e2, Bool.false_and]
        · exact ⟨false, by simp [c4], by simp [c1, c2, c3, c4]⟩
      · exact ⟨false, by simp [c3], by simp [c1, c2, c3]⟩
    · exact ⟨false, by simp [c2], by simp [c1, c2]⟩
  · exact ⟨false, by simp [c1], by simp [c1]⟩
end Go.Proofs.Ytjkanclhlnojhaa.M
