/- What the walks over trees share: boxes of five cells, rows of one's own, what may be read, what is made. -/
import Derived.Test.YtdlhidjphaaklaaAid
import Derived.Test.YtdlhidjphaaklaaCopy
import Derived.Test.YtdlhidjphaaklaaEv
import Derived.Test.YtdlhidjphaaklaaLists
import Derived.Test.YtdlhidjphaaklaaMark
import Derived.Test.YtdlhidjphaaklaaOwn
namespace Go.Proofs.Ytdlhidjphaaklaa.H
open Go.RowKit Go.Proofs.Ytdlhidjphaaklaa.P Go.Proofs.YtdlhidjphaaklaaW.PrintWords Go.Proofs.Ytdlhidjphaaklaa.M
set_option linter.unusedVariables false

section
variable {P : Program} {ops : Array Oper} {rest : List Oper} {o : Oper} {a : Act} {Q : Exit → Act → World → Prop}
theorem put5 {W : World} {g : Nat} {t : TypeId} {a0 a1 a2 a3 a4 : Value} (h : W.heap[g]? = some (.cells #[a0, a1, a2, a3, a4] t (0, 0))) (u0 u1 u2 u3 u4 : Value) :
    (((((W.setCell ⟨g, 0, none⟩ u0).setCell ⟨g, 1, none⟩ u1).setCell ⟨g, 2, none⟩ u2).setCell ⟨g, 3, none⟩ u3).setCell ⟨g, 4, none⟩ u4).heap[g]? = some (.cells #[u0, u1, u2, u3, u4] t (0, 0)) :=
  blk_put (blk_put (blk_put (blk_put (blk_put h 0 u0 rfl) 1 u1 rfl) 2 u2 rfl) 3 u3 rfl) 4 u4 rfl
theorem chg_at (w : World) (g i : Nat) (u : Value) : Chg (fun k => k = g) w (w.setCell ⟨g, i, none⟩ u) := Chg.set w ⟨g, i, none⟩ u rfl
/-- A record of five cells, stored into a block of its own. -/
theorem store5_event {W : World} (hgd : o.guard = none) {t : TypeId} {p : Tmp} {v : Operand} (_ho : o.op = .store t (.tmp p) v) (hN : o.dst = none) {g : Nat} {a0 a1 a2 a3 a4 : Value} (u0 u1 u2 u3 u4 : Value)
    (bk : W.heap[g]? = some (.cells #[a0, a1, a2, a3, a4] t (0, 0)))
    (hrun : (execOp a.eval o).run P W = .ok .skip (((((W.setCell ⟨g, 0, none⟩ u0).setCell ⟨g, 1, none⟩ u1).setCell ⟨g, 2, none⟩ u2).setCell ⟨g, 3, none⟩ u3).setCell ⟨g, 4, none⟩ u4))
    (h : ∀ w', w'.heap[g]? = some (.cells #[u0, u1, u2, u3, u4] t (0, 0)) → Chg (fun k => k = g) W w' → wpList P ops Q rest a w') : wpList P ops Q (o :: rest) a W :=
  store_event hgd _ho hN hrun (fun w' e => h w' (e ▸ put5 bk u0 u1 u2 u3 u4) (e ▸ ((((chg_at W g 0 u0).trans (chg_at _ g 1 u1)).trans (chg_at _ g 2 u2)).trans (chg_at _ g 3 u3)).trans (chg_at _ g 4 u4)))
theorem cells5 {W : World} {g : Nat} {t : TypeId} {a0 a1 a2 a3 a4 : Value} (h : W.heap[g]? = some (.cells #[a0, a1, a2, a3, a4] t (0, 0))) : W.cell? ⟨g, 0, none⟩ = some a0 ∧ W.cell? ⟨g, 1, none⟩ = some a1 ∧ W.cell? ⟨g, 2, none⟩ = some a2 ∧ W.cell? ⟨g, 3, none⟩ = some a3 ∧ W.cell? ⟨g, 4, none⟩ = some a4 :=
  ⟨(blk_cell h 0).trans rfl, (blk_cell h 1).trans rfl, (blk_cell h 2).trans rfl, (blk_cell h 3).trans rfl, (blk_cell h 4).trans rfl⟩
theorem free5 {W : World} {g : Nat} {t : TypeId} {cs : Array Value} (h : W.heap[g]? = some (.cells cs t (0, 0))) : W.frozen? ⟨g, 0, none⟩ = false ∧ W.frozen? ⟨g, 1, none⟩ = false ∧ W.frozen? ⟨g, 2, none⟩ = false ∧ W.frozen? ⟨g, 3, none⟩ = false ∧ W.frozen? ⟨g, 4, none⟩ = false :=
  ⟨blk_frozen h 0, blk_frozen h 1, blk_frozen h 2, blk_frozen h 3, blk_frozen h 4⟩
end
theorem blk_chg {S : Nat → Prop} {w w1 : World} {g : Nat} {o : Obj} (h : w.heap[g]? = some o) (hc : Chg S w w1) (hs : ¬ S g) : w1.heap[g]? = some o := (hc.block g (blk_lt h) hs).trans h
theorem ORow_below {w w1 : World} {v : Value} {kids : List S33} {fss : List (List Nat)} (h : ORow w v kids fss) (hb : Below w.heap.size w w1) : ORow w1 v kids fss := ORow_chg (Chg.of_same (S := fun _ => False) hb) h (fun _ _ e => e) (fun _ _ e => e)
theorem ORow_at {w : World} {P : Option Addr} {m p : Nat} {kids : List S33} {fss : List (List Nat)} (h : ORow w (.slice P m p) kids fss) : k33.C w P kids.length kids := by
  obtain ⟨A, c, e, _, hc⟩ := ORow_C h
  injection e with e1 _ _
  rw [e1]
  exact hc
theorem ORow_lt {w : World} {v : Value} {kids : List S33} {fss : List (List Nat)} (h : ORow w v kids fss) : ∀ k ∈ v.ownBlock.toList ++ fss.flatten, k < w.heap.size := by
  obtain ⟨inner, h3, h4, h5⟩ := h
  intro k hk
  simp only [List.mem_append, mem_own, List.mem_flatten] at hk
  rcases hk with hk | ⟨f, hf, hk⟩
  · exact (h3.lt k hk).2
  · obtain ⟨i, hi, rfl⟩ := List.getElem_of_mem hf
    exact OT_lt _ _ _ (h5 i (by omega) _ (List.getElem?_eq_getElem hi)) k hk
theorem below_chg {S : Nat → Prop} {B : Nat} {w w1 w2 : World} (h : Below B w w1) (hB : B ≤ w1.heap.size) (hc : Chg S w1 w2) (hs : ∀ k, S k → B ≤ k) : Below B w w2 := h.trans (hc.below hs hB)
/-- A tree's Keys and Kids may be read. -/
def Seen (w : World) (v3 v4 : Value) (x : S33) : Prop := ∃ A3 c3 A4 c4, v3 = .slice A3 x.f3.length c3 ∧ v4 = .slice A4 x.f4.length c4 ∧ Kd.C Kd.string w A3 x.f3.length x.f3 ∧ x.f3.length ≤ c3 ∧ k33.C w A4 x.f4.length x.f4 ∧ x.f4.length ≤ c4
theorem Seen.below {w w1 : World} {v3 v4 : Value} {x : S33} (h : Seen w v3 v4 x) (hb : Below w.heap.size w w1) : Seen w1 v3 v4 x := by
  obtain ⟨A3, c3, A4, c4, e3, e4, g3, l3, g4, l4⟩ := h
  exact ⟨A3, c3, A4, c4, e3, e4, Kd.C_below g3 hb, l3, Kd.C_below g4 hb, l4⟩
theorem Seen.of_top {w : World} {v3 v4 : Value} {x : S33} {fss : List (List Nat)} (h : Top w v3 v4 x fss) : Seen w v3 v4 x := by
  obtain ⟨A3, c3, e3, l3, g3⟩ := SRow_C h.1
  obtain ⟨A4, c4, e4, l4, g4⟩ := ORow_C h.2.1
  exact ⟨A3, c3, A4, c4, e3, e4, g3, l3, g4, l4⟩
theorem Seen.of_R {w : World} {v3 v4 : Value} {b : Nat} {ok ok' : Nat → Prop} {r3 : List ByteArray} {r4 : List S33} (r1 r2 : Int) (s : ByteArray) (h3 : Kd.R Kd.string 9 w b ok v3 r3) (h4 : Kd.R k33 33 w b ok' v4 r4) : Seen w v3 v4 ⟨r1, r2, s, r3, r4⟩ := by
  obtain ⟨A3, c3, e3, l3, g3⟩ := Kd.R_reads h3
  obtain ⟨A4, c4, e4, l4, g4⟩ := Kd.R_reads h4
  exact ⟨A3, c3, A4, c4, e3, e4, g3, l3, g4, l4⟩
/-- A tree that was made: all its memory is new. -/
def Made (w : World) (x : S33) (e : Ending) (w' : World) : Prop := ∃ v3 v4 fss, e = .returned (.agg #[.int .i64 x.f0, .int .i64 x.f1, .string x.f2, v3, v4]) ∧ Top w' v3 v4 x fss ∧ (∀ k ∈ topFp v3 v4 fss, w.heap.size ≤ k) ∧ Below w.heap.size w w'
theorem chg_put (w : World) (g i : Nat) (u : Value) : Chg (fun k => k = g) w (w.setCell ⟨g, i, none⟩ u) := Chg.set w ⟨g, i, none⟩ u rfl
theorem ev_loop {β σ : Type} {n : Nat} {l0 : Nat → σ → Int → Option β} (S : Nat → σ) {r : β} (hend : Ev (fun k => l0 k (S n) (n : Int)) r)
    (hstep : ∀ i, i < n → Ev (fun k => l0 k (S (i + 1)) ((i + 1 : Nat) : Int)) r → Ev (fun k => l0 k (S i) (i : Int)) r) : Ev (fun k => l0 k (S 0) 0) r := by
  have key : ∀ d i, i + d = n → Ev (fun k => l0 k (S i) (i : Int)) r := by
    intro d
    induction d with
    | zero => intro i hi; obtain rfl : i = n := by omega
              exact hend
    | succ d ih => intro i hi; exact hstep i (by omega) (ih (i + 1) (by omega))
  exact key n 0 (by omega)
theorem own_form {w : World} {b e s n : Nat} {v : Value} {xs : List Value} (h : w.ownsRow b e s v n xs) (hn : 0 < n) : ∃ g cap, v = .slice (some ⟨g, 0, none⟩) n cap := by
  rcases h.2 with ⟨_, h0⟩ | ⟨g, cap, cur, hv, _⟩
  · omega
  · exact ⟨g, cap, hv⟩
theorem getD_at (l : List ByteArray) (j : Nat) (h : j < l.length) : l.getD j ByteArray.empty = l[j] := by rw [List.getD_eq_getElem?_getD, List.getElem?_eq_getElem h]; rfl
theorem node_eta (a : S33) : (⟨a.f0, a.f1, a.f2, a.f3, a.f4⟩ : S33) = a := by cases a; rfl
end Go.Proofs.Ytdlhidjphaaklaa.H
