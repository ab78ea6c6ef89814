/- Which trees are right: what program and reference answer is one and the same plain function. -/
import Derived.Test.YtdlhidjphaaklaaAid
import Derived.Test.YtdlhidjphaaklaaBytes
import Derived.Test.YtdlhidjphaaklaaEv
import Derived.Test.YtdlhidjphaaklaaLists
import Derived.Test.YtdlhidjphaaklaaP_impl_size
import Derived.Test.YtdlhidjphaaklaaP_laws_eqNode
import Derived.Test.YtdlhidjphaaklaaP_spec_l3Keys
namespace Go.Proofs.Ytdlhidjphaaklaa.M
open Go.RowKit Go.Proofs.Ytdlhidjphaaklaa.P Go.Proofs.YtdlhidjphaaklaaW.PrintWords

theorem kid_size {a x : S33} (h : x ∈ a.f4) : SizeOf.sizeOf x < SizeOf.sizeOf a := by
  obtain ⟨f0, f1, f2, f3, f4⟩ := a
  have h' : x ∈ f4 := h
  have := List.sizeOf_lt_of_mem h'
  simp only [S33.mk.sizeOf_spec]
  omega
/-- What a tree's texts, Keys and Kids measure. -/
def totK : S33 → Nat
  | ⟨_, _, s, ks, kids⟩ => s.size + (ks.length + (ks.map ByteArray.size).sum) + (kids.length + (kids.attach.map fun x => totK x.1).sum)
termination_by x => SizeOf.sizeOf x
decreasing_by
  have := List.sizeOf_lt_of_mem x.2
  simp only [S33.mk.sizeOf_spec]
  omega
theorem totK_eq (a : S33) : totK a = a.f2.size + (a.f3.length + (a.f3.map ByteArray.size).sum) + (a.f4.length + (a.f4.map totK).sum) := by
  obtain ⟨f0, f1, f2, f3, f4⟩ := a
  rw [totK]
  congr 2
  simp
theorem totK_kid {a x : S33} (h : x ∈ a.f4) : totK x + 1 ≤ totK a := by
  have := mem_le_sum totK a.f4 x h
  have := List.length_pos_of_mem h
  rw [totK_eq a]
  omega
/-- Induction over a tree's Kids. -/
theorem tree_ind {P : S33 → Prop} (h : ∀ a, (∀ x ∈ a.f4, P x) → P a) (a : S33) : P a := by
  have key : ∀ n, ∀ a : S33, SizeOf.sizeOf a ≤ n → P a := by
    intro n
    induction n with
    | zero => intro a ha; exfalso; obtain ⟨f0, f1, f2, f3, f4⟩ := a; simp only [S33.mk.sizeOf_spec] at ha; omega
    | succ n ih => intro a ha; exact h a (fun x hx => ih x (by have := kid_size hx; omega))
  exact key _ a (Nat.le_refl _)
/-- How many are within each other. -/
def deepK : S33 → Nat
  | ⟨_, _, _, _, kids⟩ => (kids.attach.map fun x => deepK x.1).foldl max 0 + 1
termination_by x => SizeOf.sizeOf x
decreasing_by
  have := List.sizeOf_lt_of_mem x.2
  simp only [S33.mk.sizeOf_spec]
  omega
theorem deepK_eq (a : S33) : deepK a = (a.f4.map deepK).foldl max 0 + 1 := by
  obtain ⟨f0, f1, f2, f3, f4⟩ := a
  rw [deepK]
  congr 2
  simp
/-- How many there are. -/
def sizeK : S33 → Nat
  | ⟨_, _, _, _, kids⟩ => (kids.attach.map fun x => sizeK x.1).foldl (· + ·) 1
termination_by x => SizeOf.sizeOf x
decreasing_by
  have := List.sizeOf_lt_of_mem x.2
  simp only [S33.mk.sizeOf_spec]
  omega
theorem sizeK_eq (a : S33) : sizeK a = (a.f4.map sizeK).foldl (· + ·) 1 := by
  obtain ⟨f0, f1, f2, f3, f4⟩ := a
  rw [sizeK]
  congr 1
  simp
theorem foldl_add (l : List Nat) : ∀ n, l.foldl (· + ·) n = n + l.sum := by
  induction l with
  | nil => simp
  | cons x xs ih => intro n; rw [List.foldl_cons, ih, List.sum_cons]; omega
theorem foldl_max_le {l : List Nat} {b : Nat} : ∀ n, n ≤ b → (∀ x ∈ l, x ≤ b) → l.foldl max n ≤ b := by
  induction l with
  | nil => intro n h _; exact h
  | cons x xs ih => intro n h hx; exact ih _ (Nat.max_le.2 ⟨h, hx x (by simp)⟩) (fun y hy => hx y (by simp [hy]))
theorem le_foldl_max {l : List Nat} : ∀ n, n ≤ l.foldl max n := by
  induction l with
  | nil => intro n; exact Nat.le_refl _
  | cons x xs ih => intro n; exact Nat.le_trans (Nat.le_max_left _ _) (ih _)
theorem mem_foldl_max {l : List Nat} {x : Nat} : ∀ n, x ∈ l → x ≤ l.foldl max n := by
  induction l with
  | nil => intro n h; cases h
  | cons y ys ih =>
    intro n h
    rcases List.mem_cons.1 h with rfl | h
    · exact Nat.le_trans (Nat.le_max_right _ _) (le_foldl_max _)
    · exact ih _ h
theorem deepK_le (a : S33) : deepK a ≤ totK a + 1 := by
  refine tree_ind (P := fun a => deepK a ≤ totK a + 1) (fun a ih => ?_) a
  rw [deepK_eq]
  have : (a.f4.map deepK).foldl max 0 ≤ totK a := foldl_max_le 0 (Nat.zero_le _) (fun y hy => by
    obtain ⟨x, hx, rfl⟩ := List.mem_map.1 hy
    have := ih x hx
    have := totK_kid hx
    omega)
  omega
theorem sizeK_le (a : S33) : sizeK a ≤ totK a + 1 := by
  refine tree_ind (P := fun a => sizeK a ≤ totK a + 1) (fun a ih => ?_) a
  rw [sizeK_eq, foldl_add, totK_eq]
  have : ∀ l : List S33, (∀ x ∈ l, sizeK x ≤ totK x + 1) → (l.map sizeK).sum ≤ l.length + (l.map totK).sum := by
    intro l
    induction l with
    | nil => simp
    | cons x xs ih2 =>
      intro h
      have h1 := h x (by simp)
      have h2 := ih2 (fun y hy => h y (by simp [hy]))
      simp only [List.map_cons, List.sum_cons, List.length_cons]
      omega
  have := this a.f4 ih
  omega
theorem deepK_kid {a x : S33} (h : x ∈ a.f4) : deepK x + 1 ≤ deepK a := by
  rw [deepK_eq a]
  have := mem_foldl_max 0 (List.mem_map_of_mem (f := deepK) h)
  omega
theorem rdK (xs : List S33) (i : Nat) (h : i < xs.length) : rd_T33 xs (i : Int) = xs[i] := by
  show xs.getD (i : Int).toNat z33 = xs[i]
  rw [Int.toNat_natCast, List.getD_eq_getElem?_getD, List.getElem?_eq_getElem h]
  rfl
theorem rdB (xs : List ByteArray) (i : Nat) : rdOf ByteArray.empty xs (i : Int) = xs.getD i ByteArray.empty := rfl

/-! ### how deep, how many -/
theorem spec_deep_ev (a : S33) : totK a ≤ 1048576 → Ev (fun k => spec_l3Deep.f k a.f0 a.f1 a.f2 a.f3 a.f4) (deepK a : Int) := by
  refine tree_ind (P := fun a => totK a ≤ 1048576 → Ev (fun k => spec_l3Deep.f k a.f0 a.f1 a.f2 a.f3 a.f4) (deepK a : Int)) (fun a ih ht => ?_) a
  have hl : a.f4.length ≤ 1048576 := by have := totK_eq a; omega
  refine Ev.step (f := fun k => spec_l3Deep.l0 k 0 0 a.f0 a.f1 a.f2 a.f3 a.f4) (fun k => by simp only [spec_l3Deep.f]) ?_
  have e := ev_fold0 (xs := a.f4) (l0 := fun k (s : Nat) i => spec_l3Deep.l0 k (s : Int) i a.f0 a.f1 a.f2 a.f3 a.f4) (step := fun s x => max s (deepK x)) (fin := fun s => ((s + 1 : Nat) : Int)) (fun _ s => s ≤ 1048577) 0 (Nat.zero_le _)
    (fun s hs => Ev.step (f := fun _ => some ((s + 1 : Nat) : Int)) (fun k => by simp only [spec_l3Deep.l0]; rw [if_neg (by omega), wsucc (by omega)]) (Ev.now _))
    (fun i hi s r hs => ⟨by
        have := ih _ (List.getElem_mem hi) (by have := totK_kid (List.getElem_mem hi); omega)
        have h1 := deepK_le a.f4[i]
        have h2 := totK_kid (List.getElem_mem hi)
        exact Nat.max_le.2 ⟨hs, by omega⟩, fun h => by
      have h2 := totK_kid (List.getElem_mem hi)
      refine Ev.step (f := fun k => (spec_l3Deep.f k a.f4[i].f0 a.f4[i].f1 a.f4[i].f2 a.f4[i].f3 a.f4[i].f4).bind fun t741 => ((spec_l1Max.f (s : Int) t741).bind fun t742 => (spec_l3Deep.l0 k t742 ((i + 1 : Nat) : Int) a.f0 a.f1 a.f2 a.f3 a.f4))) (fun k => by
        simp only [spec_l3Deep.l0]
        rw [if_pos (by omega), if_pos (by omega), rdK _ _ hi, wsucc (by omega)]) ?_
      refine Ev.bind (ih _ (List.getElem_mem hi) (by omega)) ?_
      have hm : spec_l1Max.f (s : Int) (deepK a.f4[i] : Int) = some ((max s (deepK a.f4[i]) : Nat) : Int) := by
        unfold spec_l1Max.f
        by_cases c : (s : Int) > (deepK a.f4[i] : Int)
        · rw [if_pos c]; congr 1; omega
        · rw [if_neg c]; congr 1; omega
      rw [hm]
      exact h⟩)
  have e2 : (a.f4.foldl (fun s x => max s (deepK x)) 0 + 1 : Nat) = deepK a := by rw [deepK_eq, List.foldl_map]
  rw [← e2]
  exact e
theorem spec_size_ev (a : S33) : totK a ≤ 1048576 → Ev (fun k => spec_l3Size.f k a.f0 a.f1 a.f2 a.f3 a.f4) (sizeK a : Int) := by
  refine tree_ind (P := fun a => totK a ≤ 1048576 → Ev (fun k => spec_l3Size.f k a.f0 a.f1 a.f2 a.f3 a.f4) (sizeK a : Int)) (fun a ih ht => ?_) a
  have hl : a.f4.length ≤ 1048576 := by have := totK_eq a; omega
  refine Ev.step (f := fun k => spec_l3Size.l0 k 1 0 a.f0 a.f1 a.f2 a.f3 a.f4) (fun k => by simp only [spec_l3Size.f]) ?_
  have e := ev_fold0 (xs := a.f4) (l0 := fun k (s : Nat) i => spec_l3Size.l0 k (s : Int) i a.f0 a.f1 a.f2 a.f3 a.f4) (step := fun s x => s + sizeK x) (fin := fun s => (s : Int)) (fun i s => s ≤ 1 + 1048577 * i) 1 (by omega)
    (fun s hs => Ev.step (f := fun _ => some (s : Int)) (fun k => by simp only [spec_l3Size.l0]; rw [if_neg (by omega)]) (Ev.now _))
    (fun i hi s r hs => ⟨by
        have h1 := sizeK_le a.f4[i]
        have h2 := totK_kid (List.getElem_mem hi)
        show s + sizeK a.f4[i] ≤ _
        omega, fun h => by
      have h1 := sizeK_le a.f4[i]
      have h2 := totK_kid (List.getElem_mem hi)
      refine Ev.step (f := fun k => (spec_l3Size.f k a.f4[i].f0 a.f4[i].f1 a.f4[i].f2 a.f4[i].f3 a.f4[i].f4).bind fun t745 => (spec_l3Size.l0 k (wrap64 ((s : Int) + t745)) ((i + 1 : Nat) : Int) a.f0 a.f1 a.f2 a.f3 a.f4)) (fun k => by
        simp only [spec_l3Size.l0]
        rw [if_pos (by omega), if_pos (by omega), rdK _ _ hi, wsucc (by omega)]) ?_
      refine Ev.bind (ih _ (List.getElem_mem hi) (by omega)) ?_
      have hm : wrap64 ((s : Int) + (sizeK a.f4[i] : Int)) = ((s + sizeK a.f4[i] : Nat) : Int) := by
        rw [w64 (by omega) (by omega)]; omega
      rw [hm]
      exact h⟩)
  have e2 : a.f4.foldl (fun s x => s + sizeK x) 1 = sizeK a := by rw [sizeK_eq, List.foldl_map]
  rw [← e2]
  exact e
/-- What the program's 'size' tells, with so much room. -/
def szd : Nat → S33 → Nat × Nat
  | 0, _ => (201, 9)
  | r + 1, a => ((a.f4.foldl (fun p x => (min (p.1 + (szd r x).1) 201, max p.2 (szd r x).2)) (1, 0)).1, (a.f4.foldl (fun p x => (min (p.1 + (szd r x).1) 201, max p.2 (szd r x).2)) (1, 0)).2 + 1)
theorem szd_rng : ∀ r a, (szd r a).1 ≤ 201 ∧ (szd r a).2 ≤ 9 + r
  | 0, _ => ⟨Nat.le_refl _, Nat.le_refl _⟩
  | r + 1, a => by
    have key : ∀ (l : List S33) (p : Nat × Nat), p.1 ≤ 201 → p.2 ≤ 9 + r → (l.foldl (fun p x => (min (p.1 + (szd r x).1) 201, max p.2 (szd r x).2)) p).1 ≤ 201 ∧ (l.foldl (fun p x => (min (p.1 + (szd r x).1) 201, max p.2 (szd r x).2)) p).2 ≤ 9 + r := by
      intro l
      induction l with
      | nil => intro p h1 h2; exact ⟨h1, h2⟩
      | cons x xs ih => intro p h1 h2; exact ih _ (Nat.min_le_right _ _) (Nat.max_le.2 ⟨h2, (szd_rng r x).2⟩)
    have := key a.f4 (1, 0) (by omega) (by omega)
    exact ⟨this.1, by show _ + 1 ≤ _; omega⟩
theorem impl_size_ev : ∀ (r : Nat) (a : S33), r ≤ 100 → totK a ≤ 1048576 → Ev (fun k => impl_size.f k a.f0 a.f1 a.f2 a.f3 a.f4 (r : Int)) (((szd r a).1 : Int), ((szd r a).2 : Int))
  | 0, a, _, _ => Ev.step (f := fun _ => some ((201 : Int), (9 : Int))) (fun k => by simp only [impl_size.f]; rw [if_pos (show ((0 : Nat) : Int) = 0 from rfl)]) (Ev.now _)
  | r + 1, a, hr, ht => by
    have hl : a.f4.length ≤ 1048576 := by have := totK_eq a; omega
    refine Ev.step (f := fun k => impl_size.l0 k ((r + 1 : Nat) : Int) 1 0 a.f4 (a.f4.length : Int) 0) (fun k => by simp only [impl_size.f]; rw [if_neg (by omega)]) ?_
    have e := ev_fold0 (xs := a.f4) (l0 := fun k (s : Nat × Nat) i => impl_size.l0 k ((r + 1 : Nat) : Int) (s.1 : Int) (s.2 : Int) a.f4 (a.f4.length : Int) i) (step := fun p x => (min (p.1 + (szd r x).1) 201, max p.2 (szd r x).2)) (fin := fun s => ((s.1 : Int), ((s.2 + 1 : Nat) : Int))) (fun _ s => s.1 ≤ 201 ∧ s.2 ≤ 9 + r) (1, 0) ⟨by decide, by show 0 ≤ 9 + r; omega⟩
      (fun s hs => Ev.step (f := fun _ => some ((s.1 : Int), ((s.2 + 1 : Nat) : Int))) (fun k => by simp only [impl_size.l0]; rw [if_neg (by omega), wsucc (by omega)]) (Ev.now _))
      (fun i hi s r' hs => ⟨⟨Nat.min_le_right _ _, Nat.max_le.2 ⟨hs.2, (szd_rng r _).2⟩⟩, fun h => by
        have h2 := totK_kid (List.getElem_mem hi)
        have h3 := szd_rng r a.f4[i]
        have hw : wrap64 (((r + 1 : Nat) : Int) - 1) = (r : Int) := by rw [w64 (by omega) (by omega)]; omega
        refine Ev.step (f := fun k => (impl_size.f k a.f4[i].f0 a.f4[i].f1 a.f4[i].f2 a.f4[i].f3 a.f4[i].f4 (r : Int)).bind fun bt767 => (impl_size.l0 k ((r + 1 : Nat) : Int) (mn (wrap64 ((s.1 : Int) + bt767.1)) 201) (mx (s.2 : Int) bt767.2) a.f4 (a.f4.length : Int) ((i + 1 : Nat) : Int))) (fun k => by
          simp only [impl_size.l0]
          rw [if_pos (by omega), if_pos (by omega), if_pos (by omega), rdK _ _ hi, wsucc (by omega), hw]) ?_
        refine Ev.bind (impl_size_ev r _ (by omega) (by omega)) ?_
        have h1 : mn (wrap64 ((s.1 : Int) + ((szd r a.f4[i]).1 : Int))) 201 = ((min (s.1 + (szd r a.f4[i]).1) 201 : Nat) : Int) := by
          rw [w64 (by omega) (by omega)]; unfold mn; omega
        have h4 : mx (s.2 : Int) ((szd r a.f4[i]).2 : Int) = ((max s.2 (szd r a.f4[i]).2 : Nat) : Int) := by
          unfold mx; omega
        rw [h1, h4]
        exact h⟩)
    exact e
theorem szd_le : ∀ r a, deepK a ≤ r → szd r a = (min (sizeK a) 201, deepK a)
  | 0, a, h => by rw [deepK_eq] at h; omega
  | r + 1, a, h => by
    have key : ∀ (l : List S33), (∀ x ∈ l, x ∈ a.f4) → ∀ (p : Nat × Nat) (n : Nat), p.1 = min n 201 → l.foldl (fun p x => (min (p.1 + (szd r x).1) 201, max p.2 (szd r x).2)) p = (min ((l.map sizeK).foldl (· + ·) n) 201, (l.map deepK).foldl max p.2) := by
      intro l
      induction l with
      | nil => intro _ p n hp; exact Prod.ext hp rfl
      | cons x xs ih =>
        intro hx p n hp
        have hk := deepK_kid (hx x (by simp))
        rw [List.foldl_cons, szd_le r x (by omega), ih (fun y hy => hx y (by simp [hy])) _ (n + sizeK x) (by show min (p.1 + min (sizeK x) 201) 201 = _; rw [hp]; omega)]
        rfl
    have e := key a.f4 (fun _ h => h) (1, 0) 1 rfl
    show ((a.f4.foldl _ (1, 0)).1, (a.f4.foldl _ (1, 0)).2 + 1) = _
    rw [e, sizeK_eq, deepK_eq]
theorem szd_gt : ∀ r a, r < deepK a → 9 + r ≤ (szd r a).2
  | 0, a, _ => Nat.le_refl _
  | r + 1, a, h => by
    have hx : ∃ x ∈ a.f4, r < deepK x := by
      by_cases c : ∃ x ∈ a.f4, r < deepK x
      · exact c
      · exfalso
        rw [deepK_eq] at h
        have : (a.f4.map deepK).foldl max 0 ≤ r := foldl_max_le 0 (Nat.zero_le _) (fun y hy => by
          obtain ⟨x, hx, rfl⟩ := List.mem_map.1 hy
          exact Nat.le_of_not_lt (fun e => c ⟨x, hx, e⟩))
        omega
    obtain ⟨x, hx, hd⟩ := hx
    have hs := szd_gt r x hd
    have key : ∀ (l : List S33) (p : Nat × Nat), (x ∈ l ∨ 9 + r ≤ p.2) → 9 + r ≤ (l.foldl (fun p x => (min (p.1 + (szd r x).1) 201, max p.2 (szd r x).2)) p).2 := by
      intro l
      induction l with
      | nil => intro p h; rcases h with h | h
               · cases h
               · exact h
      | cons y ys ih =>
        intro p h
        refine ih _ ?_
        rcases h with h | h
        · rcases List.mem_cons.1 h with rfl | h
          · exact .inr (Nat.le_trans hs (Nat.le_max_right _ _))
          · exact .inl h
        · exact .inr (Nat.le_trans h (Nat.le_max_left _ _))
    have := key a.f4 (1, 0) (.inl hx)
    show 9 + (r + 1) ≤ _ + 1
    omega

/-! ### each node -/
def keyB (l : List ByteArray) (i : Nat) : Bool := textOk (l.getD i ByteArray.empty) && (decide (i = 0) || Op.bytesLess (l.getD (i - 1) ByteArray.empty).toList (l.getD i ByteArray.empty).toList)
def keysOk (l : List ByteArray) : Bool := (List.range' 0 l.length).all (keyB l)
/-- A node, without what is within it. -/
def nodeB (a : S33) : Bool :=
  if a.f0 = 3 then textOk a.f2 && shB 3 a.f1 (a.f2.toList == []) a.f3.length a.f4.length
  else if a.f0 = 5 then decide (a.f3.length = a.f4.length) && (keysOk a.f3 && (decide (a.f1 = 0) && (a.f2.toList == [])))
  else shB a.f0 a.f1 (a.f2.toList == []) a.f3.length a.f4.length
def rightK : S33 → Bool
  | ⟨a0, a1, a2, a3, kids⟩ => nodeB ⟨a0, a1, a2, a3, kids⟩ && (kids.attach.all fun x => rightK x.1)
termination_by x => SizeOf.sizeOf x
decreasing_by
  have := List.sizeOf_lt_of_mem x.2
  simp only [S33.mk.sizeOf_spec]
  omega
theorem rightK_eq (a : S33) : rightK a = (nodeB a && a.f4.all rightK) := by
  obtain ⟨f0, f1, f2, f3, f4⟩ := a
  rw [rightK]
  congr 1
  simp
def treeOkK (a : S33) : Bool := decide (deepK a ≤ 8) && decide (sizeK a ≤ 200) && rightK a
theorem key_size {l : List ByteArray} {i : Nat} (hi : i < l.length) (h : (l.map ByteArray.size).sum ≤ 1048576) : (l.getD i ByteArray.empty).size ≤ 1048576 := by
  have := mem_le_sum ByteArray.size l _ (List.getElem_mem hi)
  rw [List.getD_eq_getElem?_getD, List.getElem?_eq_getElem hi]
  show l[i].size ≤ _
  omega
theorem impl_keys_ev (e : Bool) (l : List ByteArray) (hs : (l.map ByteArray.size).sum ≤ 1048576) : Ev (fun k => impl_shapeOk.l0 e k l 0) (keysOk l && e) := by
  refine ev_all (n := l.length) (l0 := fun k i => impl_shapeOk.l0 e k l i.toNat) (P := keyB l) (e := e) ?_ (fun i hi => ?_)
  · exact Ev.step (f := fun _ => some e) (fun k => by simp only [impl_shapeOk.l0, Int.toNat_natCast]; rw [if_neg (by omega)]) (Ev.now _)
  · have hsz := key_size hi hs
    have st : ∀ k, impl_shapeOk.l0 e (k + 1) l (i : Int).toNat = (impl_TextOk.f k (l.getD i ByteArray.empty)).bind fun t => (if t = true then (if 0 < i then (if Op.bytesLess (rdOf ByteArray.empty l ((i : Int) - 1)).toList (l.getD i ByteArray.empty).toList = true then impl_shapeOk.l0 e k l (i + 1) else some false) else impl_shapeOk.l0 e k l (i + 1)) else some false) := fun k => by
      simp only [impl_shapeOk.l0, Int.toNat_natCast]; rw [if_pos hi]; rfl
    have hT : Ev (fun k => impl_TextOk.f k (l.getD i ByteArray.empty)) (textOk (l.getD i ByteArray.empty)) := Ev.past (fun k hk => impl_textOk _ (by omega) k hk)
    have hp : ∀ h : 0 < i, rdOf ByteArray.empty l ((i : Int) - 1) = l.getD (i - 1) ByteArray.empty := fun h => by
      have : (i : Int) - 1 = ((i - 1 : Nat) : Int) := by omega
      rw [this]; rfl
    unfold keyB
    cases ht : textOk (l.getD i ByteArray.empty) with
    | false =>
      refine ⟨fun h => by simp at h, fun _ => Ev.step st (Ev.bind hT ?_)⟩
      rw [ht]
      exact Ev.now _
    | true =>
      rw [ht] at hT
      by_cases h0 : 0 < i
      · have hd : decide (i = 0) = false := decide_eq_false (by omega)
        rw [hd, Bool.false_or, Bool.true_and]
        refine ⟨fun h r hr => Ev.step st (Ev.bind hT ?_), fun h => Ev.step st (Ev.bind hT ?_)⟩
        · simp only [if_true, h0, hp h0, h]
          exact hr
        · simp only [if_true, h0, hp h0, h]
          exact Ev.now _
      · have hd : decide (i = 0) = true := decide_eq_true (by omega)
        rw [hd, Bool.true_or, Bool.true_and]
        refine ⟨fun h r hr => Ev.step st (Ev.bind hT ?_), fun h => by cases h⟩
        simp only [if_true, h0, if_false]
        exact hr
theorem spec_keys_ev (l : List ByteArray) (hl : l.length ≤ 1048576) (hs : (l.map ByteArray.size).sum ≤ 1048576) : Ev (fun k => spec_l3Keys.f k l) (keysOk l) := by
  have e0 : keysOk l = (keysOk l && true) := by rw [Bool.and_true]
  rw [e0]
  unfold spec_l3Keys.f
  refine ev_all (n := l.length) (l0 := fun k i => spec_l3Keys.l0 k l i) (P := keyB l) (e := true) ?_ (fun i hi => ?_)
  · exact Ev.step (f := fun _ => some true) (fun k => by simp only [spec_l3Keys.l0]; rw [if_neg (by omega)]) (Ev.now _)
  · have hsz := key_size hi hs
    have hw : 0 < i → wrap64 ((i : Int) - 1) = ((i - 1 : Nat) : Int) := fun h => by rw [w64 (by omega) (by omega)]; omega
    have st : ∀ k, spec_l3Keys.l0 (k + 1) l (i : Int) = (spec_TextOk.f k (l.getD i ByteArray.empty)).bind fun t => (if t = true then (if 0 < i then (if Op.bytesLess (l.getD (i - 1) ByteArray.empty).toList (l.getD i ByteArray.empty).toList = true then spec_l3Keys.l0 k l ((i + 1 : Nat) : Int) else some false) else spec_l3Keys.l0 k l ((i + 1 : Nat) : Int)) else some false) := fun k => by
      simp only [spec_l3Keys.l0]
      rw [if_pos (by omega), if_pos (by omega), rdB, wsucc (by omega)]
      congr 1
      funext t
      by_cases h0 : 0 < i
      · rw [hw h0, rdB, if_pos h0, if_pos (show (i : Int) > 0 by omega), if_pos (show (0 : Int) ≤ ((i - 1 : Nat) : Int) by omega), if_pos (show ((i - 1 : Nat) : Int) < (l.length : Int) by omega)]
      · rw [if_neg h0, if_neg (show ¬ (i : Int) > 0 by omega)]
    have hT : Ev (fun k => spec_TextOk.f k (l.getD i ByteArray.empty)) (textOk (l.getD i ByteArray.empty)) := Ev.past (fun k hk => spec_textOk _ (by omega) k hk)
    unfold keyB
    cases ht : textOk (l.getD i ByteArray.empty) with
    | false =>
      refine ⟨fun h => by simp at h, fun _ => Ev.step st (Ev.bind hT ?_)⟩
      rw [ht]
      exact Ev.now _
    | true =>
      rw [ht] at hT
      by_cases h0 : 0 < i
      · have hd : decide (i = 0) = false := decide_eq_false (by omega)
        rw [hd, Bool.false_or, Bool.true_and]
        refine ⟨fun h r hr => Ev.step st (Ev.bind hT ?_), fun h => Ev.step st (Ev.bind hT ?_)⟩
        · simp only [if_true, h0, h]
          exact hr
        · simp only [if_true, h0, h]
          exact Ev.now _
      · have hd : decide (i = 0) = true := decide_eq_true (by omega)
        rw [hd, Bool.true_or, Bool.true_and]
        refine ⟨fun h r hr => Ev.step st (Ev.bind hT ?_), fun h => by cases h⟩
        simp only [if_true, h0, if_false]
        exact hr
theorem shape_ev (a : S33) (ht : totK a ≤ 1048576) : Ev (fun k => impl_shapeOk.f k a.f0 a.f1 a.f2 a.f3 a.f4) (nodeB a) := by
  have hq := totK_eq a
  unfold nodeB impl_shapeOk.f
  by_cases h3 : a.f0 = 3
  · simp only [h3, if_true]
    have hT : Ev (fun k => impl_TextOk.f k a.f2) (textOk a.f2) := Ev.past (fun k hk => impl_textOk _ (by omega) k hk)
    refine Ev.bind hT ?_
    cases textOk a.f2 with
    | true => exact Ev.now _
    | false => exact Ev.now _
  · simp only [h3, if_false]
    by_cases h5 : a.f0 = 5
    · simp only [h5, if_true]
      by_cases hl : a.f3.length = a.f4.length
      · simp only [hl, if_true, decide_true, Bool.true_and]
        exact impl_keys_ev _ _ (by omega)
      · simp only [hl, if_false, decide_false, Bool.false_and]
        exact Ev.now _
    · simp only [h5, if_false]
      exact Ev.now _
theorem find_loop (xs : List S33) (hl : xs.length ≤ 1048576) (ih : ∀ x ∈ xs, Ev (fun k => impl_allShapes.f k x.f0 x.f1 x.f2 x.f3 x.f4) (rightK x)) :
    ∀ d i, i + d = xs.length → ∃ r : Int, Ev (fun k => impl_Node_80.l0 k xs (xs.length : Int) (i : Int)) r ∧ decide (r ≥ 0) = !(xs.drop i).all rightK := by
  intro d
  induction d with
  | zero =>
    intro i hi
    obtain rfl : i = xs.length := by omega
    refine ⟨-1, Ev.step (f := fun _ => some (-1)) (fun k => by simp only [impl_Node_80.l0]; rw [if_neg (by omega)]) (Ev.now _), ?_⟩
    rw [List.drop_of_length_le (Nat.le_refl _)]
    rfl
  | succ d ihd =>
    intro i hi
    have hx : i < xs.length := by omega
    have st : ∀ k, impl_Node_80.l0 (k + 1) xs (xs.length : Int) (i : Int) = (impl_allShapes_1.f k xs[i].f0 xs[i].f1 xs[i].f2 xs[i].f3 xs[i].f4).bind fun t => (if t = true then (some (i : Int)) else (impl_Node_80.l0 k xs (xs.length : Int) ((i + 1 : Nat) : Int))) := fun k => by
      simp only [impl_Node_80.l0]
      rw [if_pos (by omega), if_pos (by omega), if_pos (by omega), rdK _ _ hx, wsucc (by omega)]
    have hc : Ev (fun k => impl_allShapes_1.f k xs[i].f0 xs[i].f1 xs[i].f2 xs[i].f3 xs[i].f4) (!rightK xs[i]) :=
      Ev.step (f := fun k => (impl_allShapes.f k xs[i].f0 xs[i].f1 xs[i].f2 xs[i].f3 xs[i].f4).bind fun t775 => (some (!t775))) (fun k => by simp only [impl_allShapes_1.f]) (Ev.bind (ih _ (List.getElem_mem hx)) (Ev.now _))
    rw [List.drop_eq_getElem_cons hx, List.all_cons]
    cases hr : rightK xs[i] with
    | false =>
      refine ⟨(i : Int), Ev.step st (Ev.bind hc ?_), ?_⟩
      · rw [hr]; exact Ev.now _
      · rw [Bool.false_and]; exact decide_eq_true (by omega)
    | true =>
      obtain ⟨r, h1, h2⟩ := ihd (i + 1) (by omega)
      refine ⟨r, Ev.step st (Ev.bind hc ?_), ?_⟩
      · rw [hr]; exact h1
      · rw [Bool.true_and]; exact h2
theorem impl_right_ev (a : S33) : totK a ≤ 1048576 → Ev (fun k => impl_allShapes.f k a.f0 a.f1 a.f2 a.f3 a.f4) (rightK a) := by
  refine tree_ind (P := fun a => totK a ≤ 1048576 → Ev (fun k => impl_allShapes.f k a.f0 a.f1 a.f2 a.f3 a.f4) (rightK a)) (fun a ih ht => ?_) a
  have hl : a.f4.length ≤ 1048576 := by have := totK_eq a; omega
  obtain ⟨r, h1, h2⟩ := find_loop a.f4 hl (fun x hx => ih x hx (by have := totK_kid hx; omega)) a.f4.length 0 (by omega)
  rw [List.drop_zero] at h2
  have hI : Ev (fun k => impl_Node_80.f k a.f4) r := Ev.step (f := fun k => impl_Node_80.l0 k a.f4 (a.f4.length : Int) 0) (fun k => by simp only [impl_Node_80.f]) h1
  have hC : Ev (fun k => impl_Node_68.f k a.f4) (!a.f4.all rightK) := by
    rw [← h2]
    exact Ev.step (f := fun k => (impl_Node_80.f k a.f4).bind fun t773 => (some (decide (t773 ≥ 0)))) (fun k => by simp only [impl_Node_68.f]) (Ev.bind hI (Ev.now _))
  rw [rightK_eq]
  refine Ev.step (f := fun k => (impl_shapeOk.f k a.f0 a.f1 a.f2 a.f3 a.f4).bind fun t771 => (if t771 = true then ((impl_Node_68.f k a.f4).bind fun t772 => (some (!t772))) else (some false))) (fun k => by simp only [impl_allShapes.f]) (Ev.bind (shape_ev a ht) ?_)
  cases nodeB a with
  | false => exact Ev.now _
  | true =>
    simp only [if_true]
    refine Ev.bind hC ?_
    rw [Bool.not_not, Bool.true_and]
    exact Ev.now _
theorem shB_kids {k n : Int} {e : Bool} {n3 n4 : Nat} (h4 : ¬ k = 4) (h5 : ¬ k = 5) (h : ¬ n4 = 0 ∨ ¬ n3 = 0) : shB k n e n3 n4 = false := by
  have z : (decide (n3 = 0) && decide (n4 = 0)) = false := by
    rcases h with h | h
    · rw [decide_eq_false h, Bool.and_false]
    · rw [decide_eq_false h, Bool.false_and]
  unfold shB
  rw [if_neg h4, if_neg h5]
  simp only [Bool.and_assoc, z, Bool.and_false, ite_self]
theorem nodeB_kids {a : S33} (h4 : ¬ a.f0 = 4) (h5 : ¬ a.f0 = 5) (h : ¬ a.f4.length = 0 ∨ ¬ a.f3.length = 0) : nodeB a = false := by
  unfold nodeB
  rw [if_neg h5, shB_kids h4 h5 h, shB_kids (by decide) (by decide) h, Bool.and_false, ite_self]
theorem spec_leaf_ev (a : S33) (ht : totK a ≤ 1048576) (h4 : ¬ a.f0 = 4) (h5 : ¬ a.f0 = 5) : Ev (fun k => spec_l3Leaf.f k a.f0 a.f1 a.f2 a.f3 a.f4) (rightK a) := by
  have hq := totK_eq a
  unfold spec_l3Leaf.f
  rw [rightK_eq]
  by_cases c4 : (a.f4.length : Int) > 0
  · rw [show (fun k => if (a.f4.length : Int) > 0 then spec_l3Leaf.j0 k true a.f0 a.f1 a.f2 a.f3 a.f4 else spec_l3Leaf.j0 k (decide ((a.f3.length : Int) > 0)) a.f0 a.f1 a.f2 a.f3 a.f4) = fun k => spec_l3Leaf.j0 k true a.f0 a.f1 a.f2 a.f3 a.f4 from funext fun k => if_pos c4]
    have hn : nodeB a = false := nodeB_kids h4 h5 (.inl (by omega))
    rw [hn, Bool.false_and]
    exact Ev.step (f := fun _ => some false) (fun k => by simp only [spec_l3Leaf.j0, if_true]) (Ev.now _)
  · rw [show (fun k => if (a.f4.length : Int) > 0 then spec_l3Leaf.j0 k true a.f0 a.f1 a.f2 a.f3 a.f4 else spec_l3Leaf.j0 k (decide ((a.f3.length : Int) > 0)) a.f0 a.f1 a.f2 a.f3 a.f4) = fun k => spec_l3Leaf.j0 k (decide ((a.f3.length : Int) > 0)) a.f0 a.f1 a.f2 a.f3 a.f4 from funext fun k => if_neg c4]
    have e4 : a.f4 = [] := List.eq_nil_of_length_eq_zero (by omega)
    rw [e4, List.all_nil, Bool.and_true]
    by_cases c3 : (a.f3.length : Int) > 0
    · have hn : nodeB a = false := nodeB_kids h4 h5 (.inr (by omega))
      rw [hn, decide_eq_true c3]
      exact Ev.step (f := fun _ => some false) (fun k => by simp only [spec_l3Leaf.j0, if_true]) (Ev.now _)
    · have z3 : a.f3.length = 0 := by omega
      rw [decide_eq_false c3]
      unfold nodeB shB
      rw [e4]
      simp only [z3, List.length_nil, decide_true, Bool.and_true]
      by_cases h0 : a.f0 = 0
      · refine Ev.step (f := fun _ => some (decide (a.f1 = 0) && (a.f2.toList == []))) (fun k => ?_) (by simp [h0]; exact Ev.now _)
        simp only [spec_l3Leaf.j0, h0]
        by_cases c : a.f1 = 0 <;> simp [c]
      · by_cases h1 : a.f0 = 1
        · refine Ev.step (f := fun _ => some (decide (0 ≤ a.f1) && decide (a.f1 ≤ 1) && (a.f2.toList == []))) (fun k => ?_) (by simp [h1]; exact Ev.now _)
          simp only [spec_l3Leaf.j0, h1, l1In_eq, Option.bind_some, inB]
          by_cases c : 0 ≤ a.f1 <;> by_cases c' : a.f1 ≤ 1 <;> simp [c, c']
        · by_cases h2 : a.f0 = 2
          · refine Ev.step (f := fun _ => some (decide (-1000000000000 ≤ a.f1) && decide (a.f1 ≤ 1000000000000) && (a.f2.toList == []))) (fun k => ?_) (by simp [h2]; exact Ev.now _)
            simp only [spec_l3Leaf.j0, h2, l1In_eq, Option.bind_some, inB]
            by_cases c : -1000000000000 ≤ a.f1 <;> by_cases c' : a.f1 ≤ 1000000000000 <;> simp [c, c']
          · by_cases h3 : a.f0 = 3
            · have hT : Ev (fun k => spec_TextOk.f k a.f2) (textOk a.f2) := Ev.past (fun k hk => spec_textOk _ (by omega) k hk)
              by_cases c : a.f1 = 0
              · refine Ev.step (f := fun k => (spec_TextOk.f k a.f2).bind fun t749 => (some t749)) (fun k => ?_) ?_
                · simp only [spec_l3Leaf.j0, h3]
                  simp [c]
                · simp only [h3, c, if_true, decide_true, Bool.and_true]
                  refine Ev.bind hT ?_
                  simp
                  exact Ev.now _
              · refine Ev.step (f := fun _ => some false) (fun k => ?_) ?_
                · simp only [spec_l3Leaf.j0, h3]
                  simp [c]
                · simp [h3, c]
                  exact Ev.now _
            · refine Ev.step (f := fun _ => some false) (fun k => ?_) (by simp [h0, h1, h2, h3, h4, h5]; exact Ev.now _)
              simp only [spec_l3Leaf.j0]
              simp [h0, h1, h2, h3]
theorem spec_right_ev (a : S33) : totK a ≤ 1048576 → Ev (fun k => spec_l3Right.f k a.f0 a.f1 a.f2 a.f3 a.f4) (rightK a) := by
  refine tree_ind (P := fun a => totK a ≤ 1048576 → Ev (fun k => spec_l3Right.f k a.f0 a.f1 a.f2 a.f3 a.f4) (rightK a)) (fun a ih ht => ?_) a
  have hq := totK_eq a
  have hl : a.f4.length ≤ 1048576 := by omega
  have kids : Ev (fun k => spec_l3Right.l0 k 0 a.f0 a.f1 a.f2 a.f3 a.f4) (a.f4.all rightK) := by
    have e := ev_all (n := a.f4.length) (l0 := fun k i => spec_l3Right.l0 k i a.f0 a.f1 a.f2 a.f3 a.f4) (P := fun i => rightK (a.f4.getD i z33)) (e := true)
      (Ev.step (f := fun _ => some true) (fun k => by simp only [spec_l3Right.l0]; rw [if_neg (by omega)]) (Ev.now _))
      (fun i hi => by
        have eg : a.f4.getD i z33 = a.f4[i] := by rw [List.getD_eq_getElem?_getD, List.getElem?_eq_getElem hi]; rfl
        rw [eg]
        have h2 := totK_kid (List.getElem_mem hi)
        have hi2 := ih _ (List.getElem_mem hi) (by omega)
        have st : ∀ k, spec_l3Right.l0 (k + 1) (i : Int) a.f0 a.f1 a.f2 a.f3 a.f4 = (spec_l3Right.f k a.f4[i].f0 a.f4[i].f1 a.f4[i].f2 a.f4[i].f3 a.f4[i].f4).bind fun t => (if t = true then (spec_l3Right.l0 k ((i + 1 : Nat) : Int) a.f0 a.f1 a.f2 a.f3 a.f4) else (some false)) := fun k => by
          simp only [spec_l3Right.l0]
          rw [if_pos (by omega), if_pos (by omega), rdK _ _ hi, wsucc (by omega)]
        refine ⟨fun h r hr => Ev.step st (Ev.bind hi2 ?_), fun h => Ev.step st (Ev.bind hi2 ?_)⟩
        · rw [h]; exact hr
        · rw [h]; exact Ev.now _)
    rw [all_range_getD a.f4 z33 rightK, Bool.and_true] at e
    exact e
  have j1t : Ev (fun k => spec_l3Right.j1 k true a.f0 a.f1 a.f2 a.f3 a.f4) false := Ev.step (f := fun _ => some false) (fun k => by simp only [spec_l3Right.j1, if_true]) (Ev.now _)
  have j1f : Ev (fun k => spec_l3Right.j1 k false a.f0 a.f1 a.f2 a.f3 a.f4) (a.f4.all rightK) := Ev.step (f := fun k => spec_l3Right.l0 k 0 a.f0 a.f1 a.f2 a.f3 a.f4) (fun k => by simp only [spec_l3Right.j1]; rw [if_neg (by decide)]) kids
  by_cases h4 : a.f0 = 4
  · refine Ev.step (f := fun k => spec_l3Right.j0 k false a.f0 a.f1 a.f2 a.f3 a.f4) (fun k => by simp only [spec_l3Right.f]; rw [if_pos h4]) ?_
    rw [rightK_eq]
    have hn : nodeB a = (decide (a.f1 = 0) && (a.f2.toList == []) && decide (a.f3.length = 0)) := by unfold nodeB shB; simp [h4]
    rw [hn]
    by_cases c1 : a.f1 = 0
    · by_cases c2 : a.f2.toList = []
      · by_cases c3 : (a.f3.length : Int) > 0
        · refine Ev.step (f := fun k => spec_l3Right.j1 k true a.f0 a.f1 a.f2 a.f3 a.f4) (fun k => by simp only [spec_l3Right.j0]; rw [if_neg (by decide), if_pos c1, if_pos c2, if_pos h4, if_pos c3]) ?_
          have z3 : decide (a.f3.length = 0) = false := decide_eq_false (by omega)
          rw [z3, Bool.and_false, Bool.false_and]
          exact j1t
        · refine Ev.step (f := fun k => spec_l3Right.j1 k false a.f0 a.f1 a.f2 a.f3 a.f4) (fun k => by simp only [spec_l3Right.j0]; rw [if_neg (by decide), if_pos c1, if_pos c2, if_pos h4, if_neg c3, if_neg (by omega)]) ?_
          have z3 : decide (a.f3.length = 0) = true := decide_eq_true (by omega)
          have z2 : (a.f2.toList == []) = true := by simpa using c2
          rw [z3, z2, decide_eq_true c1]
          exact j1f
      · refine Ev.step (f := fun k => spec_l3Right.j1 k true a.f0 a.f1 a.f2 a.f3 a.f4) (fun k => by simp only [spec_l3Right.j0]; rw [if_neg (by decide), if_pos c1, if_neg c2]) ?_
        have z2 : (a.f2.toList == []) = false := by simpa using c2
        rw [z2, Bool.and_false, Bool.false_and, Bool.false_and]
        exact j1t
    · refine Ev.step (f := fun k => spec_l3Right.j1 k true a.f0 a.f1 a.f2 a.f3 a.f4) (fun k => by simp only [spec_l3Right.j0]; rw [if_neg (by decide), if_neg c1]) ?_
      rw [decide_eq_false c1]
      exact j1t
  · by_cases h5 : a.f0 = 5
    · refine Ev.step (f := fun k => spec_l3Right.j0 k false a.f0 a.f1 a.f2 a.f3 a.f4) (fun k => by simp only [spec_l3Right.f]; rw [if_neg h4]; simp [h5]) ?_
      rw [rightK_eq]
      have hn : nodeB a = (decide (a.f3.length = a.f4.length) && (keysOk a.f3 && (decide (a.f1 = 0) && (a.f2.toList == [])))) := by unfold nodeB; simp [h5]
      rw [hn]
      by_cases c1 : a.f1 = 0
      · by_cases c2 : a.f2.toList = []
        · have z2 : (a.f2.toList == []) = true := by simpa using c2
          by_cases c3 : a.f3.length = a.f4.length
          · refine Ev.step (f := fun k => (spec_l3Keys.f k a.f3).bind fun t757 => (spec_l3Right.j1 k (!t757) a.f0 a.f1 a.f2 a.f3 a.f4)) (fun k => by simp only [spec_l3Right.j0]; rw [if_neg (by decide), if_pos c1, if_pos c2, if_neg h4, if_pos h5, if_pos (by omega)]) ?_
            refine Ev.bind (spec_keys_ev a.f3 (by omega) (by omega)) ?_
            rw [decide_eq_true c3, z2, decide_eq_true c1]
            cases keysOk a.f3 with
            | true => exact j1f
            | false => exact j1t
          · refine Ev.step (f := fun k => spec_l3Right.j1 k true a.f0 a.f1 a.f2 a.f3 a.f4) (fun k => by simp only [spec_l3Right.j0]; rw [if_neg (by decide), if_pos c1, if_pos c2, if_neg h4, if_pos h5, if_neg (by omega)]) ?_
            rw [decide_eq_false c3]
            exact j1t
        · refine Ev.step (f := fun k => spec_l3Right.j1 k true a.f0 a.f1 a.f2 a.f3 a.f4) (fun k => by simp only [spec_l3Right.j0]; rw [if_neg (by decide), if_pos c1, if_neg c2]) ?_
          have z2 : (a.f2.toList == []) = false := by simpa using c2
          rw [z2, Bool.and_false, Bool.and_false, Bool.and_false, Bool.false_and]
          exact j1t
      · refine Ev.step (f := fun k => spec_l3Right.j1 k true a.f0 a.f1 a.f2 a.f3 a.f4) (fun k => by simp only [spec_l3Right.j0]; rw [if_neg (by decide), if_neg c1]) ?_
        rw [decide_eq_false c1, Bool.false_and, Bool.and_false, Bool.and_false, Bool.false_and]
        exact j1t
    · refine Ev.step (f := fun k => spec_l3Right.j0 k true a.f0 a.f1 a.f2 a.f3 a.f4) (fun k => by simp only [spec_l3Right.f]; rw [if_neg h4, show (a.f0 != 5) = true from by simpa using h5]) ?_
      refine Ev.step (f := fun k => (spec_l3Leaf.f k a.f0 a.f1 a.f2 a.f3 a.f4).bind fun t755 => (some t755)) (fun k => by simp only [spec_l3Right.j0, if_true]) ?_
      exact Ev.bind (spec_leaf_ev a ht h4 h5) (Ev.now _)
theorem spec_treeOk_ev (a : S33) (ht : totK a ≤ 1048576) : Ev (fun k => spec_TreeOk.f k a.f0 a.f1 a.f2 a.f3 a.f4) (treeOkK a) := by
  unfold spec_TreeOk.f treeOkK
  refine Ev.bind (spec_deep_ev a ht) ?_
  by_cases c1 : deepK a ≤ 8
  · simp only [show ((deepK a : Nat) : Int) ≤ 8 from by omega, if_true, c1, decide_true, Bool.true_and]
    refine Ev.bind (spec_size_ev a ht) ?_
    by_cases c2 : sizeK a ≤ 200
    · simp only [show ((sizeK a : Nat) : Int) ≤ 200 from by omega, if_true, c2, decide_true, Bool.true_and]
      exact Ev.bind (spec_right_ev a ht) (Ev.now _)
    · simp only [show ¬ ((sizeK a : Nat) : Int) ≤ 200 from by omega, if_false, c2, decide_false, Bool.false_and]
      exact Ev.now _
  · simp only [show ¬ ((deepK a : Nat) : Int) ≤ 8 from by omega, if_false, c1, decide_false, Bool.false_and]
    exact Ev.now _
theorem impl_treeOk_ev (a : S33) (ht : totK a ≤ 1048576) : Ev (fun k => impl_TreeOk.f k a.f0 a.f1 a.f2 a.f3 a.f4) (treeOkK a) := by
  unfold impl_TreeOk.f treeOkK
  refine Ev.bind (impl_size_ev 9 a (by omega) ht) ?_
  by_cases c : deepK a ≤ 9
  · rw [szd_le 9 a c]
    by_cases c2 : sizeK a ≤ 200
    · by_cases c1 : deepK a ≤ 8
      · simp only [show ((min (sizeK a) 201 : Nat) : Int) ≤ 200 from by omega, show ((deepK a : Nat) : Int) ≤ 8 from by omega, if_true, c1, c2, decide_true, Bool.true_and]
        exact Ev.bind (impl_right_ev a ht) (Ev.now _)
      · simp only [show ((min (sizeK a) 201 : Nat) : Int) ≤ 200 from by omega, show ¬ ((deepK a : Nat) : Int) ≤ 8 from by omega, if_true, if_false, c1, decide_false, Bool.false_and]
        exact Ev.now _
    · simp only [show ¬ ((min (sizeK a) 201 : Nat) : Int) ≤ 200 from by omega, if_false, c2, decide_false, Bool.and_false, Bool.false_and]
      exact Ev.now _
  · have hg := szd_gt 9 a (by omega)
    simp only [show ¬ (((szd 9 a).2 : Nat) : Int) ≤ 8 from by omega, if_false, show ¬ deepK a ≤ 8 from by omega, decide_false, Bool.false_and]
    by_cases c3 : (((szd 9 a).1 : Nat) : Int) ≤ 200
    · simp only [c3, if_true]; exact Ev.now _
    · simp only [c3, if_false]; exact Ev.now _
end Go.Proofs.Ytdlhidjphaaklaa.M
