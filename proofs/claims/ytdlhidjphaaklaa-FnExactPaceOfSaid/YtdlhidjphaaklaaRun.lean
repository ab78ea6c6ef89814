/- append of a row that may be read, as one step of a walk. -/
import Derived.Test.YtdlhidjphaaklaaAid
import Derived.Test.YtdlhidjphaaklaaBase
import Derived.Test.YtdlhidjphaaklaaCopy
import Derived.Test.YtdlhidjphaaklaaLists
import Derived.Test.YtdlhidjphaaklaaMark
import Derived.Test.YtdlhidjphaaklaaOwn
import Derived.Deep.RegionHeld3
import Derived.Maps.AppendAt
import Derived.Lib.AppendZeros
import Derived.Laws.NewBlocks
namespace Go.Proofs.Ytdlhidjphaaklaa.H
open Go.RowKit Go.Proofs.Ytdlhidjphaaklaa.P Go.Proofs.YtdlhidjphaaklaaW.PrintWords Go.Proofs.Ytdlhidjphaaklaa.M
set_option linter.unusedVariables false
set_option linter.unusedSimpArgs false

/-- What is appended: so many elements of so many cells, at A. -/
def SrcAt (w : World) (A : Option Addr) (m size : Nat) (news : List Value) : Prop := news.length = m * size ∧ (∀ u ∈ news, u.oneCell' = true) ∧ (0 < m → ∃ ad : Addr, A = some ad ∧ ∀ j u, news[j]? = some u → w.cell? (ad.add j) = some u)
theorem SrcAt.below {w w1 : World} {A : Option Addr} {m size : Nat} {news : List Value} (h : SrcAt w A m size news) (hb : Below w.heap.size w w1) : SrcAt w1 A m size news :=
  ⟨h.1, h.2.1, fun h0 => by
    obtain ⟨ad, e, hc⟩ := h.2.2 h0
    exact ⟨ad, e, fun j u hj => (hb.cell (World.block_lt_of_cell? _ _ (hc j u hj))).trans (hc j u hj)⟩⟩
theorem run_append_rd {P : Program} (w : World) (base : Nat) (t ty e : TypeId) (i : TypeInfo) (z : Value) (size bytes : Nat) (ht : P.underlying t = some (.slice e)) (hi : P.info? e = some i) (hz : i.zero = some z)
    (hsize : i.size = size) (hby : i.bytes = bytes) (hzs : z.cells.size = size) (hsz : 0 < size) (v : Value) (n : Nat) (xs : List Value) (hown : w.ownsRow base e size v n xs)
    (A : Option Addr) (m c : Nat) (news : List Value) (hs : SrcAt w A m size news) (h63 : n + m ≤ maxLen) (hbytes : (n + m) * bytes ≤ 140737488355328) (hbase : base ≤ w.heap.size) :
    ∃ v' w', (Builtin.append_ #[t, t] ty #[v, .slice A m c]).run P w = .ok v' w' ∧ w'.ownsRow base e size v' (n + m) (xs ++ news) ∧ w.grownBy w' v.ownBlock ∧ (v'.ownBlock = v.ownBlock ∨ v'.ownBlock = some w.heap.size) := by
  obtain ⟨hl, h1, hc⟩ := hs
  rcases Nat.eq_zero_or_pos m with h0 | h0
  · subst h0
    have hn : news = [] := List.eq_nil_of_length_eq_zero (by simpa using hl)
    subst hn
    cases A with
    | some ad =>
      obtain ⟨v', w', hr, h2, h3, _, h5⟩ := run_append_own_at (P := P) w base t ty e i z size bytes ht hi hz hsize hby hzs hsz v n xs hown ad 0 c [] (by simp) (fun j u hj => by simp at hj) (fun u hu => by simp at hu) h63 hbytes hbase
      exact ⟨v', w', hr, h2, h3, h5⟩
    | none =>
      refine ⟨v, w, ?_, by simpa using hown, ⟨rfl, rfl, rfl, Nat.le_refl _, fun _ _ _ => rfl⟩, .inl rfl⟩
      rcases hown.2 with ⟨rfl, rfl⟩ | ⟨g, cap, cur, rfl, _, _, q1, _⟩
      · simp [Builtin.append_, run_underlying ht, sizeOf, typeInfo, hi, Builtin.lenOf, Builtin.firstCells]
      · simp [Builtin.append_, run_underlying ht, sizeOf, typeInfo, hi, Builtin.lenOf, Builtin.firstCells, q1, storeCells]
  · obtain ⟨ad, rfl, hcc⟩ := hc h0
    obtain ⟨v', w', hr, h2, h3, _, h5⟩ := run_append_own_at (P := P) w base t ty e i z size bytes ht hi hz hsize hby hzs hsz v n xs hown ad m c news hl hcc h1 h63 hbytes hbase
    exact ⟨v', w', hr, h2, h3, h5⟩
section
variable {P : Program} {ops : Array Oper} {rest : List Oper} {o : Oper} {a : Act} {Q : Exit → Act → World → Prop} {K : Act → World → Prop} {E : Prop}
theorem step_append_run {w : World} (hg : o.guard = none) (d x : Operand) (dT sT : TypeId) (hop : o.op = .call { callee := .builtin .append, args := #[d, x], argTypes := #[dT, sT] })
    (v u : Value) (hd : a.eval d = v) (hx : a.eval x = u) {v' : Value} {w' : World} (hr : (Builtin.append_ #[dT, sT] o.type #[v, u]).run P w = .ok v' w') (hK : K (a.put o.dst v') w') :
    if Region.wanted o (yielded ops a.tmps) = true then Oper.wp P o a w K Q else E := by
  have hw : Region.wanted o (yielded ops a.tmps) = true := by simp [Region.wanted, hg]
  rw [if_pos hw]
  unfold Oper.wp
  simp [execOp, hop, resolve, invoke, builtin, hd, hx, hr, Result.andThen]
  exact hK
/-- append of a readable row to a row of one's own, as a step of a region that draws its order. -/
theorem step_append_rd {w : World} (hg : o.guard = none) (d x : Operand) (t e : TypeId) (hop : o.op = .call { callee := .builtin .append, args := #[d, x], argTypes := #[t, t] })
    (base size bytes : Nat) (z : Value) (ht : P.underlying t = some (.slice e)) (hinfo : (P.info? e).map (fun i => (i.zero, i.size, i.bytes)) = some (some z, size, bytes)) (hzs : z.cells.size = size) (hsz : 0 < size)
    (v : Value) (n : Nat) (xs : List Value) (A : Option Addr) (m c : Nat) (news : List Value) (hd : a.eval d = v) (hx : a.eval x = .slice A m c) (hown : w.ownsRow base e size v n xs) (hs : SrcAt w A m size news) (h63 : n + m ≤ maxLen) (hbytes : (n + m) * bytes ≤ 140737488355328) (hbase : base ≤ w.heap.size)
    (h : ∀ v' w', w'.ownsRow base e size v' (n + m) (xs ++ news) → w.grownBy w' v.ownBlock → (v'.ownBlock = v.ownBlock ∨ v'.ownBlock = some w.heap.size) → K (a.put o.dst v') w') :
    if Region.wanted o (yielded ops a.tmps) = true then Oper.wp P o a w K Q else E := by
  obtain ⟨i0, hi, hzz⟩ := Option.map_eq_some_iff.1 hinfo
  simp only [Prod.mk.injEq] at hzz
  obtain ⟨hz0, hz1, hz2⟩ := hzz
  obtain ⟨v', w', hr, h2, h3, h5⟩ := run_append_rd (P := P) w base t o.type e i0 z size bytes ht hi hz0 hz1 hz2 hzs hsz v n xs hown A m c news hs h63 hbytes hbase
  exact step_append_run hg d x t t hop v _ hd hx hr (h v' w' h2 h3 h5)
/-- .. and in a plain region. -/
theorem list_append_rd {w : World} (hgd : o.guard = none) (d x : Operand) (t e : TypeId) (hop : o.op = .call { callee := .builtin .append, args := #[d, x], argTypes := #[t, t] })
    (base size bytes : Nat) (z : Value) (ht : P.underlying t = some (.slice e)) (hinfo : (P.info? e).map (fun i => (i.zero, i.size, i.bytes)) = some (some z, size, bytes)) (hzs : z.cells.size = size) (hsz : 0 < size)
    (v : Value) (n : Nat) (xs : List Value) (A : Option Addr) (m c : Nat) (news : List Value) (hd : a.eval d = v) (hx : a.eval x = .slice A m c) (hown : w.ownsRow base e size v n xs) (hs : SrcAt w A m size news) (h63 : n + m ≤ maxLen) (hbytes : (n + m) * bytes ≤ 140737488355328) (hbase : base ≤ w.heap.size)
    (h : ∀ v' w', w'.ownsRow base e size v' (n + m) (xs ++ news) → w.grownBy w' v.ownBlock → (v'.ownBlock = v.ownBlock ∨ v'.ownBlock = some w.heap.size) → wpList P ops Q rest (a.put o.dst v') w') :
    wpList P ops Q (o :: rest) a w := by
  obtain ⟨i0, hi, hzz⟩ := Option.map_eq_some_iff.1 hinfo
  simp only [Prod.mk.injEq] at hzz
  obtain ⟨hz0, hz1, hz2⟩ := hzz
  obtain ⟨v', w', hr, h2, h3, h5⟩ := run_append_rd (P := P) w base t o.type e i0 z size bytes ht hi hz0 hz1 hz2 hzs hsz v n xs hown A m c news hs h63 hbytes hbase
  exact Lib.wpList_append_run w hgd d x t t hop v _ hd hx v' w' hr (h v' w' h2 h3 h5)
end
theorem Src_box (W : World) (ys : List Value) (T : TypeId) (s : Nat) (hl : ys.length = s) (h1 : ∀ u ∈ ys, u.oneCell' = true) : SrcAt (W.alloc (.cells ys.toArray T (0, 0))) (some ⟨W.heap.size, 0, none⟩) 1 s ys :=
  ⟨by rw [hl]; omega, h1, fun _ => ⟨_, rfl, fun j u hj => by rw [Addr.add_lit, Nat.zero_add, blk_cell (heap_alloc_new W _)]; simpa using hj⟩⟩
/-- The head of a row of one's own. -/
theorem Src_head {w : World} {b e s n m : Nat} {A : Option Addr} {c : Nat} {xs : List Value} (h : w.ownsRow b e s (.slice A n c) n xs) (hm : m ≤ n) (h1 : ∀ u ∈ xs, u.oneCell' = true) : SrcAt w A m s (xs.take (m * s)) := by
  have hms : m * s ≤ n * s := Nat.mul_le_mul_right _ hm
  refine ⟨by rw [List.length_take, h.1]; omega, fun u hu => h1 u (List.mem_of_mem_take hu), fun h0 => ?_⟩
  obtain ⟨g, cap, e⟩ := own_form h (by omega)
  injection e with e1 _ e3
  subst e1; subst e3
  refine ⟨_, rfl, fun j u hj => ?_⟩
  rw [List.getElem?_take] at hj
  split at hj
  · rw [Addr.add_lit, Nat.zero_add]; exact own_cell h hj
  · cases hj
/-- .. and its tail. -/
theorem Src_tail {w : World} {b e s n m : Nat} {A A' : Option Addr} {c : Nat} {xs : List Value} (h : w.ownsRow b e s (.slice A n c) n xs) (hm : m ≤ n) (h1 : ∀ u ∈ xs, u.oneCell' = true) (hA : m < n → A' = A.map (·.add (m * s))) : SrcAt w A' (n - m) s (xs.drop (m * s)) := by
  refine ⟨by rw [List.length_drop, h.1, Nat.sub_mul], fun u hu => h1 u (List.mem_of_mem_drop hu), fun h0 => ?_⟩
  obtain ⟨g, cap, e⟩ := own_form h (by omega)
  injection e with e1 _ e3
  subst e1; subst e3
  refine ⟨_, hA (by omega), fun j u hj => ?_⟩
  rw [List.getElem?_drop] at hj
  show w.cell? (((⟨g, 0, none⟩ : Addr).add (m * s)).add j) = some u
  rw [Addr.add_lit, Nat.zero_add, Addr.add_lit]
  exact own_cell h hj
theorem Src_texts {w : World} {A : Option Addr} {l : List ByteArray} (hr : Kd.C Kd.string w A l.length l) : SrcAt w A l.length 1 (l.map Value.string) := by
  refine ⟨by simp, fun u hu => by obtain ⟨x, _, rfl⟩ := List.mem_map.1 hu; rfl, fun h0 => ?_⟩
  obtain ⟨b, off, rfl, hg⟩ := C_cells h0 hr
  refine ⟨_, rfl, fun j u hj => ?_⟩
  rw [List.getElem?_map] at hj
  obtain ⟨s, hs, rfl⟩ := Option.map_eq_some_iff.1 hj
  obtain ⟨hj2, e⟩ := List.getElem?_eq_some_iff.1 hs
  rw [Addr.add_lit, hg j hj2, getD_at _ _ hj2, e]
end Go.Proofs.Ytdlhidjphaaklaa.H
