-- Made by drive.py (a program of this session) over the kit's print; not written line by line by a hand.

import Derived.Test.YtdlhidjphaaklaaP0

import Derived.Test.YtdlhidjphaaklaaRows

import Derived.ProofKit

import Derived.OpenShut

import Derived.ChangeOld

import Derived.ChangeSlices

import Derived.DataReads

import Derived.SizedLaws

namespace Go.Proofs.Ytdlhidjphaaklaa.O

open Go.ChangeShapes Go.WideShapes Go.ChangeAt Go.RowKit Go.Proofs.Ytdlhidjphaaklaa.P Go.Proofs.YtdlhidjphaaklaaW.PrintWords

set_option linter.unusedVariables false

set_option linter.unusedSimpArgs false



/-- What reads as data of type T off these cells, with so much fuel, is an element of kind d that is 'good'. -/
def Opens {α : Type} (P : Program) (d : Kd α) (T : TypeId) (good : α → Prop) (fuel : Nat) : Prop :=
  ∀ {H : Type} (enc : TypeId × Value → H) (w : World) (base : Nat) (spare : Nat → Bool) (held : Bool) (cs : List Value) (x : DataW H × List MemPlace),
    DataW.trod enc P w base spare held fuel T cs = some x → ∃ a : α, d.K w a cs ∧ good a
section
variable {P : Program} {T e : TypeId} {k : IntKind}
theorem opens_int (hT : P.underlying T = some (.int k)) (fuel : Nat) : Opens P (Kd.int k) T (fun n => (Lit.int k n).wf = true) fuel := by
  intro H enc w base spare held cs x h
  cases fuel with
  | zero => simp [DataW.trod] at h
  | succ f =>
    simp only [DataW.trod, hT] at h
    split at h <;> try (rename_i hh; cases hh; done)
    all_goals first
      | (rename_i k1 k2 n hh; injection hh with hh; injection hh with hh; subst hh; split at h
         · rename_i hc; obtain ⟨rfl, hw⟩ := hc; exact ⟨n, rfl, hw⟩
         · cases h)
      | cases h
      | (simp at *; done)
theorem opens_bool (hT : P.underlying T = some .bool) (fuel : Nat) : Opens P Kd.bool T (fun _ => True) fuel := by
  intro H enc w base spare held cs x h
  cases fuel with
  | zero => simp [DataW.trod] at h
  | succ f =>
    simp only [DataW.trod, hT] at h
    split at h <;> try (rename_i hh; cases hh; done)
    all_goals first
      | exact ⟨_, rfl, trivial⟩
      | cases h
      | (simp at *; done)
theorem opens_string (hT : P.underlying T = some .string) (fuel : Nat) : Opens P Kd.string T (fun s => s.size ≤ maxLen) fuel := by
  intro H enc w base spare held cs x h
  cases fuel with
  | zero => simp [DataW.trod] at h
  | succ f =>
    simp only [DataW.trod, hT] at h
    split at h <;> try (rename_i hh; cases hh; done)
    all_goals first
      | (split at h
         · rename_i hc; exact ⟨_, rfl, hc⟩
         · cases h)
      | cases h
      | (simp at *; done)
theorem mapM_at {α β : Type} {f : α → Option β} {l : List α} {r : List β} (h : l.mapM f = some r) (i : Nat) (x : α) (hx : l[i]? = some x) : ∃ y, f x = some y := by
  have hg := Go.mapM_some_get h i x hx
  have hl := Go.mapM_some_length h
  have hi : i < r.length := by rw [hl]; exact (List.getElem?_eq_some_iff.1 hx).1
  exact ⟨r[i], by rw [hg, List.getElem?_eq_getElem hi]⟩
theorem choose_list {α : Type} {p : Nat → α → Prop} : ∀ n : Nat, (∀ i, i < n → ∃ a, p i a) → ∃ xs : List α, xs.length = n ∧ ∀ i a, xs[i]? = some a → p i a
  | 0, _ => ⟨[], rfl, fun i a h => by simp at h⟩
  | n + 1, h => by
    obtain ⟨xs, hl, hx⟩ := choose_list n (fun i hi => h i (by omega))
    obtain ⟨a, ha⟩ := h n (by omega)
    refine ⟨xs ++ [a], by simp [hl], fun i b hb => ?_⟩
    rcases Nat.lt_or_ge i n with hi | hi
    · rw [List.getElem?_append_left (by omega)] at hb
      exact hx i b hb
    · have hl2 := (List.getElem?_eq_some_iff.1 hb).1
      rw [List.length_append, List.length_singleton] at hl2
      obtain rfl : i = n := by omega
      rw [← hl, List.getElem?_concat_length] at hb
      obtain rfl := Option.some.inj hb
      exact ha
theorem cells_at {w : World} {base : Nat} {a : Addr} {n : Nat} {cs : List Value} (h : w.cells? base a n = some cs) : cs.length = n ∧ ∀ i u, cs[i]? = some u → w.cell? (a.add i) = some u := by
  unfold World.cells? at h
  split at h
  · have hl := Go.mapM_some_length h
    rw [List.length_range] at hl
    refine ⟨hl, fun i u hu => ?_⟩
    have hi := (List.getElem?_eq_some_iff.1 hu).1
    have hg := Go.mapM_some_get h i i (by rw [List.getElem?_range (by omega)])
    rw [hg, hu]
  · cases h
theorem add_add (a : Addr) (i j : Nat) : (a.add i).add j = a.add (i + j) := by
  unfold Addr.add
  by_cases h1 : i = 0 <;> by_cases h2 : j = 0 <;> simp [h1, h2, Nat.add_assoc]
theorem opens_sliceN {α : Type} {d : Kd α} {good : α → Prop} (hT : P.underlying T = some (.slice e)) (hs : P.cellsOf e = d.sz) {f : Nat} (he : Opens P d e good f) :
    Opens P (Kd.slice e d) T (fun l => l.length ≤ maxLen ∧ ∀ y ∈ l, good y) (f + 1) := by
  intro H enc w base spare held cs x h
  simp only [DataW.trod, hT] at h
  split at h <;> try (rename_i hh; cases hh; done)
  all_goals first
    | (exact ⟨[], ⟨none, 0, rfl, Nat.le_refl _, ⟨rfl, by simp, fun hp => absurd hp (by simp)⟩⟩, Nat.zero_le _, fun y hy => by simp at hy⟩)
    | (rename_i e' a len cap hh
       injection hh with hh
       injection hh with hh
       subst hh
       split at h
       · rename_i hc
         obtain ⟨hb, hlc, hcm⟩ := hc
         obtain ⟨elems, hel, _⟩ := Option.bind_eq_some_iff.1 h
         have key : ∀ i, i < len → ∃ y : α, good y ∧ ∃ c : List Value, c.length = d.sz ∧ d.K w y c ∧ ∀ j u, c[j]? = some u → w.cell? (a.add (i * d.sz + j)) = some u := by
           intro i hi
           obtain ⟨y, hy⟩ := mapM_at hel i i (by rw [List.getElem?_range hi])
           obtain ⟨c, hcc, ht⟩ := Option.bind_eq_some_iff.1 hy
           obtain ⟨z, hk, hg⟩ := he _ _ _ _ _ _ _ ht
           obtain ⟨hl, hcell⟩ := cells_at hcc
           refine ⟨z, hg, c, by rw [hl, hs], hk, fun j u hu => ?_⟩
           have := hcell j u hu
           rw [add_add, hs] at this
           exact this
         obtain ⟨xs, hxl, hx⟩ := choose_list len key
         have hcm' : len ≤ 9223372036854775807 := by unfold maxLen at hcm; omega
         refine ⟨xs, ⟨some a, cap, by rw [hxl], by rw [hxl]; exact hlc, ⟨rfl, by rw [hxl]; exact hcm', fun _ => ⟨a, rfl, fun j p hj => ?_⟩⟩⟩, by rw [hxl]; exact hcm', fun y hy => ?_⟩
         · obtain ⟨_, c, h1, h2, h3⟩ := hx j p hj
           exact ⟨c, h1, h2, h3⟩
         · obtain ⟨i, hi, rfl⟩ := List.getElem_of_mem hy
           exact (hx i _ (List.getElem?_eq_getElem hi)).1
       · cases h)
    | cases h
    | (simp at *; done)
theorem Opens.mono {α : Type} {d : Kd α} {good good' : α → Prop} {fuel : Nat} (h : Opens P d T good fuel) (hg : ∀ x, good x → good' x) : Opens P d T good' fuel := fun enc w base spare held cs x hx => by
  obtain ⟨a, k, g⟩ := h enc w base spare held cs x hx
  exact ⟨a, k, hg a g⟩
theorem opens_sliceL {α : Type} {d : Kd α} {good : α → Prop} (hT : P.underlying T = some (.slice e)) (hs : P.cellsOf e = d.sz) {f : Nat} (he : ∀ g, f = g + 1 → Opens P d e good g) :
    Opens P (Kd.slice e d) T (fun l => l.length ≤ maxLen ∧ ∀ y ∈ l, good y) f := by
  cases f with
  | zero => intro H enc w base spare held cs x h; simp [DataW.trod] at h
  | succ f => exact opens_sliceN hT hs (he f rfl)
theorem opens_slice {α : Type} {d : Kd α} {good : α → Prop} (hT : P.underlying T = some (.slice e)) (hs : P.cellsOf e = d.sz) (he : ∀ f, Opens P d e good f) (fuel : Nat) :
    Opens P (Kd.slice e d) T (fun l => l.length ≤ maxLen ∧ ∀ y ∈ l, good y) fuel := by
  cases fuel with
  | zero => intro H enc w base spare held cs x h; simp [DataW.trod] at h
  | succ f => exact opens_sliceN hT hs (he f)
theorem trod_struct {fs : Array Field} (hT : P.underlying T = some (.struct fs)) {H : Type} {enc : TypeId × Value → H} {w : World} {base : Nat} {spare : Nat → Bool} {held : Bool} {f : Nat} {cs : List Value} {x : DataW H × List MemPlace}
    (h : DataW.trod enc P w base spare held (f + 1) T cs = some x) : cs.length = P.cellsOf T ∧ ∃ xs, fs.toList.mapM (fun z => DataW.trod enc P w base spare held f z.type ((cs.drop z.offset).take (P.cellsOf z.type))) = some xs := by
  simp only [DataW.trod, hT] at h
  split at h
  · rename_i hl
    obtain ⟨xs, hxs, _⟩ := Option.map_eq_some_iff.1 h
    exact ⟨hl, xs, hxs⟩
  · cases h
end
theorem list_2 {α : Type} {l : List α} (h : l.length = 2) : ∃ a b, l = [a, b] := by
  match l, h with
  | [a, b], _ => exact ⟨a, b, rfl⟩
theorem list_3 {α : Type} {l : List α} (h : l.length = 3) : ∃ a b c, l = [a, b, c] := by
  match l, h with
  | [a, b, c], _ => exact ⟨a, b, c, rfl⟩
theorem list_4 {α : Type} {l : List α} (h : l.length = 4) : ∃ a b c d, l = [a, b, c, d] := by
  match l, h with
  | [a, b, c, d], _ => exact ⟨a, b, c, d, rfl⟩
theorem list_5 {α : Type} {l : List α} (h : l.length = 5) : ∃ a b c d e, l = [a, b, c, d, e] := by
  match l, h with
  | [a, b, c, d, e], _ => exact ⟨a, b, c, d, e, rfl⟩
theorem list_10 {α : Type} {l : List α} (h : l.length = 10) : ∃ a b c d e f g h i j, l = [a, b, c, d, e, f, g, h, i, j] := by
  match l, h with
  | [a, b, c, d, e, f, g, h, i, j], _ => exact ⟨a, b, c, d, e, f, g, h, i, j, rfl⟩
theorem slice_inj {A A' : Option Addr} {n n' c c' : Nat} (h : [Value.slice A n c] = [Value.slice A' n' c']) : A = A' ∧ n = n' ∧ c = c' := by
  injection h with h
  injection h with h1 h2 h3
  exact ⟨h1, h2, h3⟩
theorem arr_of {cs : Array Value} {l : List Value} (h : cs.toList = l) : cs = l.toArray := by subst h; rfl


def goodN25 : Nat → S25 → Prop
  | 0, _ => False
  | n + 1, x => (Lit.int .i64 x.f0).wf = true ∧ (Lit.int .i64 x.f1).wf = true ∧ x.f2.size ≤ maxLen ∧ (x.f3.length ≤ maxLen ∧ ∀ y ∈ x.f3, y.size ≤ maxLen) ∧ (x.f4.length ≤ maxLen ∧ ∀ y ∈ x.f4, goodN25 n y)

def good25 (x : S25) : Prop := ∃ n, goodN25 n x

theorem goodN25_mono : ∀ n x, goodN25 n x → goodN25 (n + 1) x
  | 0, _, h => h.elim
  | n + 1, x, h => by
    have ih := goodN25_mono n
    unfold goodN25 at h ⊢
    obtain ⟨h0, h1, h2, h3, h4⟩ := h
    exact ⟨h0, h1, h2, h3, ⟨h4.1, fun y hy => ih y (h4.2 y hy)⟩⟩

theorem cells25 : Try.prog.cellsOf 25 = 5 := by kernel_rfl

theorem mkN25 {w : World} {c0 : Value} {c1 : Value} {c2 : Value} {c3 : Value} {c4 : Value} {a0 : Int} (h0 : ((Kd.int .i64)).K w a0 [c0]) {a1 : Int} (h1 : ((Kd.int .i64)).K w a1 [c1]) {a2 : ByteArray} (h2 : (Kd.string).K w a2 [c2]) {a3 : List ByteArray} (h3 : ((Kd.slice 9 Kd.string)).K w a3 [c3]) {a4 : List (S25)} (h4 : (Kd.slice 25 k25).K w a4 [c4]) : k25.K w ⟨a0, a1, a2, a3, a4⟩ [c0, c1, c2, c3, c4] := by
  obtain rfl := List.singleton_inj.1 h0
  obtain rfl := List.singleton_inj.1 h1
  obtain rfl := List.singleton_inj.1 h2
  obtain ⟨A3, n3, e3, l3, g3⟩ := h3
  obtain rfl := List.singleton_inj.1 e3
  obtain ⟨A4, n4, e4, l4, g4⟩ := h4
  obtain rfl := List.singleton_inj.1 e4
  exact k25_mk w ⟨a0, a1, a2, a3, a4⟩ l3 g3 l4 g4

set_option maxRecDepth 100000 in
theorem opensN25 : ∀ fuel, Opens Try.prog k25 25 (goodN25 fuel) fuel
  | 0 => fun enc w base spare held cs x h => by simp [DataW.trod] at h
  | f + 1 => fun enc w base spare held cs x h => by
    have ih : ∀ g, f = g + 1 → Opens Try.prog k25 25 (goodN25 f) g := fun g e => by
      subst e
      exact Opens.mono (@opensN25 g) (goodN25_mono g)
    obtain ⟨hl, xs, hm⟩ := trod_struct Try.underlying25 h
    rw [cells25] at hl
    obtain ⟨c0, c1, c2, c3, c4, rfl⟩ := list_5 hl
    have hm2 := hm
    obtain ⟨y0, hy0⟩ := mapM_at hm 0 _ rfl
    obtain ⟨a0, k0_, g0⟩ := (opens_int Try.underlying3) _ _ _ _ _ _ _ _ (show DataW.trod enc Try.prog w base spare held f 3 [c0] = some y0 from hy0)
    obtain ⟨y1, hy1⟩ := mapM_at hm 1 _ rfl
    obtain ⟨a1, k1_, g1⟩ := (opens_int Try.underlying3) _ _ _ _ _ _ _ _ (show DataW.trod enc Try.prog w base spare held f 3 [c1] = some y1 from hy1)
    obtain ⟨y2, hy2⟩ := mapM_at hm 2 _ rfl
    obtain ⟨a2, k2_, g2⟩ := (opens_string Try.underlying9) _ _ _ _ _ _ _ _ (show DataW.trod enc Try.prog w base spare held f 9 [c2] = some y2 from hy2)
    obtain ⟨y3, hy3⟩ := mapM_at hm 3 _ rfl
    obtain ⟨a3, k3_, g3⟩ := (opens_slice Try.underlying22 (show Try.prog.cellsOf 9 = (Kd.string).sz from by kernel_rfl) (opens_string Try.underlying9)) _ _ _ _ _ _ _ _ (show DataW.trod enc Try.prog w base spare held f 22 [c3] = some y3 from hy3)
    obtain ⟨y4, hy4⟩ := mapM_at hm 4 _ rfl
    obtain ⟨a4, k4_, g4⟩ := (opens_sliceL Try.underlying23 (show Try.prog.cellsOf 25 = k25.sz from by kernel_rfl) ih) _ _ _ _ _ _ _ (show DataW.trod enc Try.prog w base spare held f 23 [c4] = some y4 from hy4)
    refine ⟨⟨a0, a1, a2, a3, a4⟩, ?_, ⟨g0, g1, g2, g3, g4⟩⟩
    exact mkN25 k0_ k1_ k2_ k3_ k4_
termination_by fuel => fuel
decreasing_by all_goals omega

theorem opens25 (fuel : Nat) : Opens Try.prog k25 25 good25 fuel := fun enc w base spare held cs x h => by
  obtain ⟨a, hk, hg⟩ := opensN25 fuel enc w base spare held cs x h
  exact ⟨a, hk, _, hg⟩

end Go.Proofs.Ytdlhidjphaaklaa.O
