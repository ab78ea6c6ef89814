/- What the law over Set wants beside the steps of the other laws: both calls for readable arguments, sizes, marks from any number on, boxes and stores in a region that draws its order. -/
import Derived.Test.YtnbnpgjgibcmpaaAid
import Derived.Test.YtnbnpgjgibcmpaaCopy
import Derived.Test.YtnbnpgjgibcmpaaDelete
import Derived.Test.YtnbnpgjgibcmpaaGet
import Derived.Test.YtnbnpgjgibcmpaaInsert
import Derived.Test.YtnbnpgjgibcmpaaLaw
import Derived.Test.YtnbnpgjgibcmpaaListOf
import Derived.Test.YtnbnpgjgibcmpaaLists
import Derived.Test.YtnbnpgjgibcmpaaMake
import Derived.Test.YtnbnpgjgibcmpaaMark
import Derived.Test.YtnbnpgjgibcmpaaOwn
import Derived.Test.YtnbnpgjgibcmpaaSet
import Derived.Test.YtnbnpgjgibcmpaaSetS
import Derived.Test.YtnbnpgjgibcmpaaSetW
import Derived.Test.YtnbnpgjgibcmpaaUnset
import Derived.Test.YtnbnpgjgibcmpaaUnsetW
namespace Go.Proofs.Ytnbnpgjgibcmpaa.H
open Go.RowKit Go.Proofs.Ytnbnpgjgibcmpaa.P Go.Proofs.YtnbnpgjgibcmpaaW.PrintWords Go.Proofs.YtnbnpgjgibcmpaaW.PrintLast Go.Proofs.Ytnbnpgjgibcmpaa.M
set_option linter.unusedVariables false

section
variable {P : Program} {ops : Array Oper} {Q : Exit → Act → World → Prop}
/-- A block that a drawn region makes. -/
theorem boxv_ {oi : Oper} {N : Option Tmp} {a : Act} {w : World} {K : Act → World → Prop} {cs : Array Value} {t : TypeId} (hw : Region.wanted oi (yielded ops a.tmps) = true) (hN : oi.dst = N)
    (hrun : (execOp a.eval oi).run P w = .ok (.value (.pointer (some ⟨w.heap.size, 0, none⟩))) (w.alloc (.cells cs t (0, 0))))
    (h : ∀ g, g = w.heap.size → ∀ w', w'.heap[g]? = some (.cells cs t (0, 0)) → Below w.heap.size w w' → K (a.put N (.pointer (some ⟨g, 0, none⟩))) w') :
    if Region.wanted oi (yielded ops a.tmps) = true then Oper.wp P oi a w K Q else K (a.put N undef) w :=
  value_ hw hN hrun (h _ rfl _ (blk_new w _) (below_alloc (Below.refl _ _) _))
/-- A record of five cells, stored into such a block. -/
theorem store5v_ {oi : Oper} {a : Act} {w : World} {K : Act → World → Prop} {g : Nat} {t : TypeId} {a0 a1 a2 a3 a4 : Value} (u0 u1 u2 u3 u4 : Value) (hw : Region.wanted oi (yielded ops a.tmps) = true) (hN : oi.dst = none)
    (bk : w.heap[g]? = some (.cells #[a0, a1, a2, a3, a4] t (0, 0)))
    (hrun : (execOp a.eval oi).run P w = .ok .skip (((((w.setCell ⟨g, 0, none⟩ u0).setCell ⟨g, 1, none⟩ u1).setCell ⟨g, 2, none⟩ u2).setCell ⟨g, 3, none⟩ u3).setCell ⟨g, 4, none⟩ u4))
    (h : ∀ w', w'.heap[g]? = some (.cells #[u0, u1, u2, u3, u4] t (0, 0)) → Chg (fun k => k = g) w w' → K a w') :
    if Region.wanted oi (yielded ops a.tmps) = true then Oper.wp P oi a w K Q else K (a.put none undef) w :=
  skip_ hw hN hrun (h _ (put5 bk u0 u1 u2 u3 u4) ((((chg_at w g 0 u0).trans (chg_at _ g 1 u1)).trans (chg_at _ g 2 u2)).trans (chg_at _ g 3 u3) |>.trans (chg_at _ g 4 u4)))
end
theorem setIS_calls (x : S25) (key : ByteArray) (y : S25) (hc : cntTop x ≤ 1099511627776) (hd : cntTop y ≤ 1099511627776) (w : World) (v3 v4 u3 u4 : Value) (h : Seen w v3 v4 x) (h2 : Seen w u3 u4 y) :
    Calls Try.prog 50 #[.agg #[.int .i64 x.f0, .int .i64 x.f1, .string x.f2, v3, v4], .string key, .agg #[.int .i64 y.f0, .int .i64 y.f1, .string y.f2, u3, u4]] w fun e w' => Made w (setV x key y) e w' := by
  obtain ⟨A3, c3, A4, c4, rfl, rfl, g3, l3, g4, l4⟩ := h
  obtain ⟨B3, d3, B4, d4, rfl, rfl, p3, q3, p4, q4⟩ := h2
  exact set_calls x key y hc hd A3 A4 B3 B4 c3 c4 d3 d4 w g3 l3 g4 l4 p3 q3 p4 q4
theorem setSS_calls (x : S25) (key : ByteArray) (y : S25) (hc : cntTop x ≤ 1099511627776) (hd : cntTop y ≤ 1099511627776) (w : World) (v3 v4 u3 u4 : Value) (h : Seen w v3 v4 x) (h2 : Seen w u3 u4 y) :
    Calls Try.prog 49 #[.agg #[.int .i64 x.f0, .int .i64 x.f1, .string x.f2, v3, v4], .string key, .agg #[.int .i64 y.f0, .int .i64 y.f1, .string y.f2, u3, u4]] w fun e w' => Made w (setV x key y) e w' := by
  obtain ⟨A3, c3, A4, c4, rfl, rfl, g3, l3, g4, l4⟩ := h
  obtain ⟨B3, d3, B4, d4, rfl, rfl, p3, q3, p4, q4⟩ := h2
  exact setS_calls x key y hc hd A3 A4 B3 B4 c3 c4 d3 d4 w g3 l3 g4 l4 p3 q3 p4 q4
theorem sum_set_le (l : List Nat) (i n : Nat) : (l.set i n).sum ≤ l.sum + n := by
  induction l generalizing i with
  | nil => simp
  | cons x xs ih =>
    cases i with
    | zero => simp only [List.set_cons_zero, List.sum_cons]; omega
    | succ i => have := ih i; simp only [List.set_cons_succ, List.sum_cons]; omega
theorem cnt_setV (x : S25) (key : ByteArray) (y : S25) : cntTop (setV x key y) ≤ cntTop x + cntTop y + 4 := by
  have hy : cntK y = 3 + cntTop y := by rw [cntK_eq]; unfold cntTop; omega
  unfold setV
  split
  · split
    · rename_i i _
      unfold cntTop at hy ⊢
      simp only [List.map_set]
      have := sum_set_le (x.f4.map cntK) i (cntK y)
      omega
    · unfold cntTop at hy ⊢
      simp only [List.map_append, List.map_cons, List.sum_append, List.sum_cons, List.length_append, List.length_cons]
      have h1 : (x.f3.take (insAt x.f3 key)).length + (x.f3.drop (insAt x.f3 key)).length = x.f3.length := by rw [← List.length_append, List.take_append_drop]
      have h2 : ((x.f4.take (insAt x.f3 key)).map cntK).sum + ((x.f4.drop (insAt x.f3 key)).map cntK).sum = (x.f4.map cntK).sum := by rw [← List.sum_append, ← List.map_append, List.take_append_drop]
      omega
  · omega
theorem markAt_calls (x : S25) (n : Nat) (hn : cntTop x = n) (k0 : Int) (h0 : 0 ≤ k0) (h1 : k0 ≤ 549755813888) {v3 v4 : Value} {fss : List (List Nat)} {w : World} (h : Top w v3 v4 x fss) (hl : n ≤ 549755813880) :
    Calls Try.prog 22 #[.agg #[.int .i64 x.f0, .int .i64 x.f1, .string x.f2, v3, v4], .int .i64 k0] w fun e w' => ∃ x' : S25, e = .returned (.int .i64 (k0 + (n : Nat))) ∧ cntTop x' = n ∧ MkTop x' k0 ∧ Top w' v3 v4 x' fss ∧ Chg (fun k => k ∈ topFp v3 v4 fss ∨ w.heap.size ≤ k) w w' :=
  (mark_calls x v3 v4 fss k0 w h h0 (by omega)).mono fun e w' ⟨x', he, _, _, _, h1, h2, h3, h4⟩ => ⟨x', by rw [← hn]; exact he, h1.trans hn, h2, h3, h4⟩
end Go.Proofs.Ytnbnpgjgibcmpaa.H
