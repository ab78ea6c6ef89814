/- Trees that own their memory: every block of a tree is told, none twice; what is written elsewhere leaves it as it is. -/
import Derived.Test.YtdlhidjphaaklaaP0
import Derived.Below
import Derived.Laws.AppendOwn
namespace Go.Proofs.Ytdlhidjphaaklaa.H
open Go.RowKit Go.Proofs.Ytdlhidjphaaklaa.P Go.Proofs.YtdlhidjphaaklaaW.PrintWords
set_option linter.unusedVariables false

/-- Outside of the blocks S the world w' is as w was. -/
structure Chg (S : Nat → Prop) (w w' : World) : Prop where
  os : w'.os = w.os
  tape : w'.tape = w.tape
  output : w'.output = w.output
  size : w.heap.size ≤ w'.heap.size
  block : ∀ k, k < w.heap.size → ¬ S k → w'.heap[k]? = w.heap[k]?
section
variable {S S' : Nat → Prop} {w w1 w2 : World}
theorem Chg.refl (S : Nat → Prop) (w : World) : Chg S w w := ⟨rfl, rfl, rfl, Nat.le_refl _, fun _ _ _ => rfl⟩
theorem Chg.trans (h : Chg S w w1) (k : Chg S w1 w2) : Chg S w w2 :=
  ⟨k.os.trans h.os, k.tape.trans h.tape, k.output.trans h.output, Nat.le_trans h.size k.size, fun i hi hs => (k.block i (Nat.lt_of_lt_of_le hi h.size) hs).trans (h.block i hi hs)⟩
theorem Chg.mono (h : Chg S w w1) (hs : ∀ k, k < w.heap.size → S k → S' k) : Chg S' w w1 := ⟨h.os, h.tape, h.output, h.size, fun i hi hn => h.block i hi (fun e => hn (hs i hi e))⟩
theorem Chg.of_below {B : Nat} (h : Below B w w1) : Chg (fun k => B ≤ k) w w1 := ⟨h.os, h.tape, h.output, h.size, fun k _ hs => h.block k (by omega)⟩
theorem Chg.of_same (h : Below w.heap.size w w1) : Chg S w w1 := ⟨h.os, h.tape, h.output, h.size, fun k hk _ => h.block k hk⟩
theorem Chg.below {B : Nat} (h : Chg S w w1) (hB : ∀ k, S k → B ≤ k) (hw : B ≤ w.heap.size) : Below B w w1 := ⟨h.os, h.tape, h.output, h.size, fun k hk => h.block k (by omega) (fun e => by have := hB k e; omega)⟩
theorem Chg.set (w : World) (p : Addr) (u : Value) (hp : S p.block) : Chg S w (w.setCell p u) :=
  ⟨rfl, rfl, rfl, by simp [World.setCell], fun k _ hs => Below.heap_setCell w p u k (fun e => hs (e ▸ hp))⟩
theorem Chg.grown {row : Option Nat} (h : w.grownBy w1 row) (hr : ∀ k, row = some k → S k) : Chg S w w1 := ⟨h.os, h.tape, h.output, h.size, fun k hk hs => h.block k hk (fun e => hs (hr k e.symm))⟩
end
/-- A row of texts of its own. -/
def SRow (w : World) (v : Value) (xs : List ByteArray) : Prop := w.ownsRow 0 9 1 v xs.length (xs.map Value.string)
/-- A tree off its cells, with the blocks that it owns. -/
def OT (w : World) : S33 → List Value → List Nat → Prop
  | ⟨a, b, s, ks, kids⟩, cs, fp => ∃ (v3 v4 : Value) (fss : List (List Nat)) (inner : List Value), cs = [.int .i64 a, .int .i64 b, .string s, v3, v4] ∧ SRow w v3 ks ∧ w.ownsRow 0 33 5 v4 kids.length inner ∧ fss.length = kids.length ∧
      (∀ i (h : i < kids.length) f, fss[i]? = some f → OT w kids[i] ((inner.drop (i * 5)).take 5) f) ∧ fp = v3.ownBlock.toList ++ (v4.ownBlock.toList ++ fss.flatten)
termination_by x => SizeOf.sizeOf x
decreasing_by
  have := List.sizeOf_lt_of_mem (List.getElem_mem h)
  simp only [S33.mk.sizeOf_spec]
  omega
/-- A row of trees of its own: the row's cells, and what each tree owns. -/
def ORow (w : World) (v : Value) (kids : List S33) (fss : List (List Nat)) : Prop := ∃ inner, w.ownsRow 0 33 5 v kids.length inner ∧ fss.length = kids.length ∧ ∀ i (h : i < kids.length) f, fss[i]? = some f → OT w kids[i] ((inner.drop (i * 5)).take 5) f
theorem OT_iff (w : World) (x : S33) (cs : List Value) (fp : List Nat) : OT w x cs fp ↔ ∃ v3 v4 fss, cs = [.int .i64 x.f0, .int .i64 x.f1, .string x.f2, v3, v4] ∧ SRow w v3 x.f3 ∧ ORow w v4 x.f4 fss ∧ fp = v3.ownBlock.toList ++ (v4.ownBlock.toList ++ fss.flatten) := by
  obtain ⟨a, b, s, ks, kids⟩ := x
  rw [OT]
  constructor
  · rintro ⟨v3, v4, fss, inner, h1, h2, h3, h4, h5, h6⟩
    exact ⟨v3, v4, fss, h1, h2, ⟨inner, h3, h4, h5⟩, h6⟩
  · rintro ⟨v3, v4, fss, h1, h2, ⟨inner, h3, h4, h5⟩, h6⟩
    exact ⟨v3, v4, fss, inner, h1, h2, h3, h4, h5, h6⟩
/-- Induction over a tree's Kids. -/
theorem tree_ind {P : S33 → Prop} (h : ∀ a, (∀ x ∈ a.f4, P x) → P a) (a : S33) : P a := by
  have key : ∀ n, ∀ a : S33, SizeOf.sizeOf a ≤ n → P a := by
    intro n
    induction n with
    | zero => intro a ha; exfalso; obtain ⟨f0, f1, f2, f3, f4⟩ := a; simp only [S33.mk.sizeOf_spec] at ha; omega
    | succ n ih =>
      intro a ha
      refine h a (fun x hx => ih x ?_)
      obtain ⟨f0, f1, f2, f3, f4⟩ := a
      have hx' : x ∈ f4 := hx
      have := List.sizeOf_lt_of_mem hx'
      simp only [S33.mk.sizeOf_spec] at ha
      omega
  exact key _ a (Nat.le_refl _)
theorem own_chg {S : Nat → Prop} {w w1 : World} {b e s n : Nat} {v : Value} {xs : List Value} (h : w.ownsRow b e s v n xs) (hc : Chg S w w1) (hs : ∀ k, v.ownBlock = some k → ¬ S k) : w1.ownsRow b e s v n xs :=
  own_move h (fun k hk => hc.block k (h.lt k hk).2 (hs k hk))
theorem mem_own {v : Value} {k : Nat} : k ∈ v.ownBlock.toList ↔ v.ownBlock = some k := by cases v.ownBlock <;> simp [eq_comm]
/-- What is written elsewhere leaves a tree as it is. -/
theorem OT_chg {S : Nat → Prop} {w w1 : World} (hc : Chg S w w1) (x : S33) : ∀ cs fp, OT w x cs fp → (∀ k ∈ fp, ¬ S k) → OT w1 x cs fp := by
  refine tree_ind (P := fun x => ∀ cs fp, OT w x cs fp → (∀ k ∈ fp, ¬ S k) → OT w1 x cs fp) (fun x ih cs fp h hs => ?_) x
  rw [OT_iff] at h ⊢
  obtain ⟨v3, v4, fss, h1, h2, ⟨inner, h3, h4, h5⟩, rfl⟩ := h
  refine ⟨v3, v4, fss, h1, own_chg h2 hc (fun k hk => hs k (by simp [hk])), ⟨inner, own_chg h3 hc (fun k hk => hs k (by simp [hk])), h4, fun i hi f hf => ?_⟩, rfl⟩
  exact ih _ (List.getElem_mem hi) _ _ (h5 i hi f hf) (fun k hk => hs k (by
    simp only [List.mem_append, List.mem_flatten]
    exact .inr (.inr ⟨f, List.mem_of_getElem? hf, hk⟩)))
theorem ORow_chg {S : Nat → Prop} {w w1 : World} (hc : Chg S w w1) {v : Value} {kids : List S33} {fss : List (List Nat)} (h : ORow w v kids fss) (hs : ∀ k, v.ownBlock = some k → ¬ S k) (hf : ∀ k ∈ fss.flatten, ¬ S k) : ORow w1 v kids fss := by
  obtain ⟨inner, h3, h4, h5⟩ := h
  refine ⟨inner, own_chg h3 hc hs, h4, fun i hi f hi2 => OT_chg hc _ _ _ (h5 i hi f hi2) (fun k hk => hf k ?_)⟩
  rw [List.mem_flatten]
  exact ⟨f, List.mem_of_getElem? hi2, hk⟩
/-- The blocks stand. -/
theorem OT_lt {w : World} (x : S33) : ∀ cs fp, OT w x cs fp → ∀ k ∈ fp, k < w.heap.size := by
  refine tree_ind (P := fun x => ∀ cs fp, OT w x cs fp → ∀ k ∈ fp, k < w.heap.size) (fun x ih cs fp h k hk => ?_) x
  rw [OT_iff] at h
  obtain ⟨v3, v4, fss, h1, h2, ⟨inner, h3, h4, h5⟩, rfl⟩ := h
  simp only [List.mem_append, mem_own, List.mem_flatten] at hk
  rcases hk with hk | hk | ⟨f, hf, hk⟩
  · exact (h2.lt k hk).2
  · exact (h3.lt k hk).2
  · obtain ⟨i, hi, rfl⟩ := List.getElem_of_mem hf
    exact ih _ (List.getElem_mem (by omega)) _ _ (h5 i (by omega) _ (List.getElem?_eq_getElem hi)) k hk
/-- A row of one's own, read. -/
theorem own_reads {α : Type} {d : Kd α} {w : World} {e s n : Nat} {v : Value} {inner : List Value} {xs : List α} (h : w.ownsRow 0 e s v n inner) (hs : d.sz = s) (hx : xs.length = n)
    (hk : ∀ i (hi : i < xs.length), d.K w xs[i] ((inner.drop (i * s)).take s)) : ∃ A c, v = .slice A n c ∧ n ≤ c ∧ d.C w A n xs := by
  obtain ⟨hl, h2⟩ := h
  rcases h2 with ⟨rfl, h0⟩ | ⟨g, cap, cur, rfl, _, hg, hc, hm, hsz, ht⟩
  · subst h0
    exact ⟨none, 0, rfl, Nat.le_refl _, hx, by omega, fun h => absurd h (Nat.lt_irrefl 0)⟩
  · refine ⟨some ⟨g, 0, none⟩, cap, rfl, hc, hx, by unfold maxLen at hm; omega, fun _ => ⟨⟨g, 0, none⟩, rfl, fun j p hj => ?_⟩⟩
    obtain ⟨hj2, rfl⟩ := List.getElem?_eq_some_iff.1 hj
    refine ⟨(inner.drop (j * s)).take s, ?_, hk j hj2, fun i u hu => ?_⟩
    · have : j * s + s ≤ n * s := by rw [← Nat.succ_mul]; exact Nat.mul_le_mul_right _ (by omega)
      rw [List.length_take, List.length_drop, hl, hs]; omega
    · rw [List.getElem?_take] at hu
      split at hu
      · rename_i hi
        rw [List.getElem?_drop] at hu
        have := World.ownsRow.cells (w := w) (base := 0) (e := e) (size := s) (v := .slice (some ⟨g, 0, none⟩) n cap) (n := n) (xs := inner) ⟨hl, .inr ⟨g, cap, cur, rfl, Nat.zero_le _, hg, hc, hm, hsz, ht⟩⟩ (g := g) rfl (j * s + i) u hu
        rw [hs]
        exact this
      · cases hu
theorem SRow_C {w : World} {v : Value} {xs : List ByteArray} (h : SRow w v xs) : ∃ A c, v = .slice A xs.length c ∧ xs.length ≤ c ∧ Kd.string.C w A xs.length xs := by
  refine own_reads (d := Kd.string) h rfl rfl (fun i hi => ?_)
  show _ = [Value.string xs[i]]
  rw [Nat.mul_one, List.drop_eq_getElem_cons (by simpa using hi), List.getElem_map]
  rfl
theorem OT_K {w : World} (x : S33) : ∀ cs fp, OT w x cs fp → k33.K w x cs := by
  refine tree_ind (P := fun x => ∀ cs fp, OT w x cs fp → k33.K w x cs) (fun x ih cs fp h => ?_) x
  rw [OT_iff] at h
  obtain ⟨v3, v4, fss, rfl, h2, ⟨inner, h3, h4, h5⟩, _⟩ := h
  obtain ⟨A3, c3, rfl, l3, g3⟩ := SRow_C h2
  obtain ⟨A4, c4, rfl, l4, g4⟩ := own_reads (d := k33) h3 rfl rfl (fun i hi => ih _ (List.getElem_mem hi) _ _ (h5 i hi _ (List.getElem?_eq_getElem (by omega))))
  exact k33_mk w x l3 g3 l4 g4
theorem ORow_C {w : World} {v : Value} {kids : List S33} {fss : List (List Nat)} (h : ORow w v kids fss) : ∃ A c, v = .slice A kids.length c ∧ kids.length ≤ c ∧ k33.C w A kids.length kids := by
  obtain ⟨inner, h3, h4, h5⟩ := h
  exact own_reads (d := k33) h3 rfl rfl (fun i hi => OT_K _ _ _ (h5 i hi _ (List.getElem?_eq_getElem (by omega))))
/-! No block twice. -/
theorem nd_flat {fss : List (List Nat)} (h : fss.flatten.Nodup) {i : Nat} {f : List Nat} (hi : fss[i]? = some f) : f.Nodup := (List.pairwise_flatten.1 h).1 f (List.mem_of_getElem? hi)
theorem nd_flat2 {fss : List (List Nat)} (h : fss.flatten.Nodup) {i j : Nat} {f g : List Nat} (hi : fss[i]? = some f) (hj : fss[j]? = some g) (hne : i ≠ j) : ∀ k, k ∈ f → k ∉ g := by
  have hp := List.pairwise_iff_getElem.1 (List.pairwise_flatten.1 h).2
  obtain ⟨hi2, rfl⟩ := List.getElem?_eq_some_iff.1 hi
  obtain ⟨hj2, rfl⟩ := List.getElem?_eq_some_iff.1 hj
  intro k hk hk2
  rcases Nat.lt_or_gt_of_ne hne with hlt | hlt
  · exact hp i j hi2 hj2 hlt k hk k hk2 rfl
  · exact hp j i hj2 hi2 hlt k hk2 k hk rfl
theorem mem_flat {fss : List (List Nat)} {i : Nat} {f : List Nat} (hi : fss[i]? = some f) {k : Nat} (hk : k ∈ f) : k ∈ fss.flatten := List.mem_flatten.2 ⟨f, List.mem_of_getElem? hi, hk⟩
end Go.Proofs.Ytdlhidjphaaklaa.H
