/- Functions that make a map of leaves: rows that are written out, calls whose answers are plain values, in a region that draws its order. -/
import Derived.Test.YtnbnpgjgibcmpaaAid
import Derived.Test.YtnbnpgjgibcmpaaCopy
import Derived.Test.YtnbnpgjgibcmpaaDelete
import Derived.Test.YtnbnpgjgibcmpaaGet
import Derived.Test.YtnbnpgjgibcmpaaInsert
import Derived.Test.YtnbnpgjgibcmpaaLaw
import Derived.Test.YtnbnpgjgibcmpaaListOf
import Derived.Test.YtnbnpgjgibcmpaaLists
import Derived.Test.YtnbnpgjgibcmpaaMake
import Derived.Test.YtnbnpgjgibcmpaaMapOf
import Derived.Test.YtnbnpgjgibcmpaaMapOfS
import Derived.Test.YtnbnpgjgibcmpaaMark
import Derived.Test.YtnbnpgjgibcmpaaOwn
import Derived.Test.YtnbnpgjgibcmpaaSet
import Derived.Test.YtnbnpgjgibcmpaaSetLaw
import Derived.Test.YtnbnpgjgibcmpaaSetS
import Derived.Test.YtnbnpgjgibcmpaaSetW
import Derived.Test.YtnbnpgjgibcmpaaUnset
import Derived.Test.YtnbnpgjgibcmpaaUnsetW
namespace Go.Proofs.Ytnbnpgjgibcmpaa.H
open Go.RowKit Go.Proofs.Ytnbnpgjgibcmpaa.P Go.Proofs.YtnbnpgjgibcmpaaW.PrintWords Go.Proofs.YtnbnpgjgibcmpaaW.PrintLast Go.Proofs.Ytnbnpgjgibcmpaa.M
set_option linter.unusedVariables false
set_option linter.unusedSimpArgs false

section
variable {P : Program} {ops : Array Oper} {Q : Exit → Act → World → Prop} {S : World → Prop} {ds : List Nat}
/-- A call whose answer is known and that turns nothing that stands. -/
theorem qcall_ {i : Nat} {N : Option Tmp} {oi : Oper} {fuel : Nat} {l : Array Bool} {a a' : Act} {w : World} {md : Region.Mode} {f : FuncId} {fn : Func} {ags : Array Operand} {ts : Array TypeId} (l' : Array Bool) (hi : ops[i]? = some oi) (hN : oi.dst = N) (hc : readyB md ops l l' i = true) (hd : i ∉ ds)
    (hf : P.funcs[f]? = some fn) (hname : (fn.name == "runtime.NumGoroutine") = false) (hb : fn.body.isSome = true) (args : Array Value) (v : Value)
    (hw : Region.wanted oi (yielded ops a.tmps) = true) (hop : oi.op = .call { callee := .value (.func f), args := ags, argTypes := ts }) (hargs : ags.map a.eval = args) (ha : a.put N v = a')
    (hcall : Calls P f args w fun e w' => e = .returned v ∧ Below w.heap.size w w') (hS : ∀ w', Below w.heap.size w w' → S w') (h : ∀ w', Below w.heap.size w w' → S w' → wpAnyLast P md ops Q S ds fuel l' a' w') : wpAnyLast P md ops Q S ds (fuel + 1) l a w :=
  one_ l' hi hN hc hd (fun K hK => goes_ hf hname hb args hw hN hop hargs (hcall.mono fun e w' ⟨he, hbl⟩ => ⟨v, he, hK.out _ _ (hS w' hbl) (fun hs => ha ▸ h w' hbl hs)⟩))
/-- The same, where a block may be made ahead of it. -/
theorem qtwo_ {i j : Nat} {Ni Nj : Option Tmp} {oi oj : Oper} {fuel : Nat} {l : Array Bool} {a a1 : Act} {w : World} {md : Region.Mode} {f : FuncId} {fn : Func} {ags : Array Operand} {ts : Array TypeId} {cs : Array Value} {t : TypeId} (n c : Nat) (li lj : Array Bool) (hi : ops[i]? = some oi) (hj : ops[j]? = some oj) (hNi : oi.dst = Ni) (hNj : oj.dst = Nj)
    (hc : (Region.ready md ops l == [i, j] && l.setIfInBounds i true == li && l.setIfInBounds j true == lj) = true) (hdi : i ∉ ds) (hdj : j ∉ ds)
    (hwi : Region.wanted oi (yielded ops a.tmps) = true) (hrun : (execOp a.eval oi).run P w = .ok (.value (.slice (some ⟨w.heap.size, 0, none⟩) n c)) (w.alloc (.cells cs t (0, 0))))
    (hf : P.funcs[f]? = some fn) (hname : (fn.name == "runtime.NumGoroutine") = false) (hb : fn.body.isSome = true) (args : Array Value) (v : Value)
    (hw : Region.wanted oj (yielded ops a.tmps) = true) (hop : oj.op = .call { callee := .value (.func f), args := ags, argTypes := ts }) (hargs : ags.map a.eval = args) (ha : a.put Nj v = a1)
    (hcall : Calls P f args w fun e w' => e = .returned v ∧ Below w.heap.size w w') (hS : ∀ w', Below w.heap.size w w' → S w')
    (h1 : ∀ g w', w'.heap[g]? = some (.cells cs t (0, 0)) → Below w.heap.size w w' → S w' → wpAnyLast P md ops Q S ds fuel li (a.put Ni (.slice (some ⟨g, 0, none⟩) n c)) w')
    (h2 : ∀ w', Below w.heap.size w w' → S w' → wpAnyLast P md ops Q S ds fuel lj a1 w') : wpAnyLast P md ops Q S ds (fuel + 1) l a w :=
  two_ li lj hi hj hNi hNj hc hdi hdj
    (fun K hK => value_ hwi hNi hrun (hK.out _ _ (hS _ (below_alloc (Below.refl _ _) _)) (fun hs => h1 _ _ (blk_new w _) (below_alloc (Below.refl _ _) _) hs)))
    (fun K hK => goes_ hf hname hb args hw hNj hop hargs (hcall.mono fun e w' ⟨he, hbl⟩ => ⟨v, he, hK.out _ _ (hS w' hbl) (fun hs => ha ▸ h2 w' hbl hs)⟩))
/-- A row that is written out. -/
theorem qlit_ {i : Nat} {N : Option Tmp} {oi : Oper} {fuel : Nat} {l : Array Bool} {a : Act} {w : World} {md : Region.Mode} {cs : Array Value} {t : TypeId} (n c : Nat) (l' : Array Bool) (hi : ops[i]? = some oi) (hN : oi.dst = N) (hc : readyB md ops l l' i = true) (hd : i ∉ ds)
    (hw : Region.wanted oi (yielded ops a.tmps) = true) (hrun : (execOp a.eval oi).run P w = .ok (.value (.slice (some ⟨w.heap.size, 0, none⟩) n c)) (w.alloc (.cells cs t (0, 0))))
    (hS : ∀ w', Below w.heap.size w w' → S w') (h : ∀ g w', w'.heap[g]? = some (.cells cs t (0, 0)) → Below w.heap.size w w' → S w' → wpAnyLast P md ops Q S ds fuel l' (a.put N (.slice (some ⟨g, 0, none⟩) n c)) w') : wpAnyLast P md ops Q S ds (fuel + 1) l a w :=
  one_ l' hi hN hc hd (fun K hK => value_ hw hN hrun (hK.out _ _ (hS _ (below_alloc (Below.refl _ _) _)) (fun hs => h _ _ (blk_new w _) (below_alloc (Below.refl _ _) _) hs)))
/-- Two rows that are written out, in either order. -/
theorem qlits_ {i j : Nat} {Ni Nj : Option Tmp} {oi oj : Oper} {fuel : Nat} {l : Array Bool} {a : Act} {w : World} {md : Region.Mode} {cs cs2 : Array Value} {t t2 : TypeId} (n c n2 c2 : Nat) (li lj : Array Bool) (hi : ops[i]? = some oi) (hj : ops[j]? = some oj) (hNi : oi.dst = Ni) (hNj : oj.dst = Nj)
    (hc : (Region.ready md ops l == [i, j] && l.setIfInBounds i true == li && l.setIfInBounds j true == lj) = true) (hdi : i ∉ ds) (hdj : j ∉ ds)
    (hwi : Region.wanted oi (yielded ops a.tmps) = true) (hruni : (execOp a.eval oi).run P w = .ok (.value (.slice (some ⟨w.heap.size, 0, none⟩) n c)) (w.alloc (.cells cs t (0, 0))))
    (hwj : Region.wanted oj (yielded ops a.tmps) = true) (hrunj : (execOp a.eval oj).run P w = .ok (.value (.slice (some ⟨w.heap.size, 0, none⟩) n2 c2)) (w.alloc (.cells cs2 t2 (0, 0)))) (hS : ∀ w', Below w.heap.size w w' → S w')
    (h1 : ∀ g w', w'.heap[g]? = some (.cells cs t (0, 0)) → Below w.heap.size w w' → S w' → wpAnyLast P md ops Q S ds fuel li (a.put Ni (.slice (some ⟨g, 0, none⟩) n c)) w')
    (h2 : ∀ g w', w'.heap[g]? = some (.cells cs2 t2 (0, 0)) → Below w.heap.size w w' → S w' → wpAnyLast P md ops Q S ds fuel lj (a.put Nj (.slice (some ⟨g, 0, none⟩) n2 c2)) w') : wpAnyLast P md ops Q S ds (fuel + 1) l a w :=
  two_ li lj hi hj hNi hNj hc hdi hdj
    (fun K hK => value_ hwi hNi hruni (hK.out _ _ (hS _ (below_alloc (Below.refl _ _) _)) (fun hs => h1 _ _ (blk_new w _) (below_alloc (Below.refl _ _) _) hs)))
    (fun K hK => value_ hwj hNj hrunj (hK.out _ _ (hS _ (below_alloc (Below.refl _ _) _)) (fun hs => h2 _ _ (blk_new w _) (below_alloc (Below.refl _ _) _) hs)))
end
theorem blk_C {α : Type} {d : Kd α} {w : World} {g : Nat} {t : TypeId} {cs : List Value} {xs : List α} (h : w.heap[g]? = some (.cells cs.toArray t (0, 0))) (hl : cs.length = xs.length * d.sz) (hm : xs.length ≤ 1099511627776)
    (hk : ∀ i (hi : i < xs.length), d.K w xs[i] ((cs.drop (i * d.sz)).take d.sz)) : d.C w (some ⟨g, 0, none⟩) xs.length xs := by
  refine ⟨rfl, by omega, fun _ => ⟨⟨g, 0, none⟩, rfl, fun j p hj => ?_⟩⟩
  obtain ⟨hj2, rfl⟩ := List.getElem?_eq_some_iff.1 hj
  refine ⟨(cs.drop (j * d.sz)).take d.sz, ?_, hk j hj2, fun i u hu => ?_⟩
  · have : j * d.sz + d.sz ≤ xs.length * d.sz := by rw [← Nat.succ_mul]; exact Nat.mul_le_mul_right _ (by omega)
    rw [List.length_take, List.length_drop, hl]; omega
  · rw [List.getElem?_take] at hu
    split at hu
    · rw [List.getElem?_drop] at hu
      rw [Addr.add_lit, Nat.zero_add, blk_cell h]
      simpa using hu
    · cases hu
theorem lits_C {w : World} {g : Nat} {t : TypeId} (ks : List ByteArray) (h : w.heap[g]? = some (.cells (ks.map Value.string).toArray t (0, 0))) (hm : ks.length ≤ 1099511627776) : Kd.string.C w (some ⟨g, 0, none⟩) ks.length ks := by
  refine blk_C (d := Kd.string) h (by simp [Kd.string, Kd.scalar]) hm (fun i hi => ?_)
  show _ = [Value.string ks[i]]
  show ((ks.map Value.string).drop (i * 1)).take 1 = _
  rw [Nat.mul_one, List.drop_eq_getElem_cons (by simpa using hi), List.getElem_map]
  rfl
theorem nil_C {α : Type} {d : Kd α} (w : World) : d.C w none 0 [] := ⟨rfl, by omega, fun h => absurd h (Nat.lt_irrefl 0)⟩
theorem leaf_K (w : World) (a b : Int) (s : ByteArray) : k25.K w ⟨a, b, s, [], []⟩ [.int .i64 a, .int .i64 b, .string s, .slice none 0 0, .slice none 0 0] :=
  k25_mk w ⟨a, b, s, [], []⟩ (c3 := 0) (Nat.le_refl 0) (nil_C w) (c4 := 0) (Nat.le_refl 0) (nil_C w)
/-- So many leaves. -/
def leafN (p : Int × Int × ByteArray) : S25 := ⟨p.1, p.2.1, p.2.2, [], []⟩
def leafC (p : Int × Int × ByteArray) : List Value := [.int .i64 p.1, .int .i64 p.2.1, .string p.2.2, .slice none 0 0, .slice none 0 0]
theorem flat5 (l : List (Int × Int × ByteArray)) : ∀ i (hi : i < l.length), ((l.flatMap leafC).drop (i * 5)).take 5 = leafC l[i] := by
  induction l with
  | nil => intro i hi; exact absurd hi (Nat.not_lt_zero _)
  | cons p ps ih =>
    intro i hi
    cases i with
    | zero => rfl
    | succ i =>
      have := ih i (by simpa using hi)
      rw [List.flatMap_cons, show (i + 1) * 5 = (leafC p).length + i * 5 by show _ = 5 + i * 5; omega, List.drop_length_add_append]
      exact this
theorem leaves_C {w : World} {g : Nat} {t : TypeId} (l : List (Int × Int × ByteArray)) (h : w.heap[g]? = some (.cells (l.flatMap leafC).toArray t (0, 0))) (hm : l.length ≤ 1099511627776) : k25.C w (some ⟨g, 0, none⟩) (l.map leafN).length (l.map leafN) := by
  have hlen : ∀ l : List (Int × Int × ByteArray), (l.flatMap leafC).length = l.length * 5 := by
    intro l
    induction l with
    | nil => rfl
    | cons p ps ih => rw [List.flatMap_cons, List.length_append, ih, List.length_cons]; show 5 + _ = _; omega
  refine blk_C (d := k25) h (by rw [List.length_map]; exact hlen l) (by simpa using hm) (fun i hi => ?_)
  have hi2 : i < l.length := by simpa using hi
  rw [List.getElem_map]
  have e := flat5 l i hi2
  show k25.K w _ (((l.flatMap leafC).drop (i * 5)).take 5)
  rw [e]
  exact leaf_K w _ _ _
theorem cnt_leaf (l : List (Int × Int × ByteArray)) : ∀ y ∈ l.map leafN, cntTop y = 0 := by
  intro y hy
  obtain ⟨p, _, rfl⟩ := List.mem_map.1 hy
  simp [leafN, cntTop]
theorem cnt_mapV (ks : List ByteArray) (l : List (Int × Int × ByteArray)) : ∀ i, i ≤ l.length → cntTop (mapV ks (l.map leafN) i) ≤ 4 * i := by
  intro i
  induction i with
  | zero => intro _; simp [mapV, cntTop]
  | succ i ih =>
    intro hi
    have h1 := ih (by omega)
    have h2 := cnt_setV (mapV ks (l.map leafN) i) (ks.getD i ByteArray.empty) (rd_T25 (l.map leafN) (i : Int))
    have h3 : cntTop (rd_T25 (l.map leafN) (i : Int)) = 0 := by
      rw [rdT2 _ i (by rw [List.length_map]; omega)]
      exact cnt_leaf l _ (List.getElem_mem _)
    show cntTop (setV _ _ _) ≤ _
    omega
/-- mapOf over leaves. -/
theorem mapL_calls (ks : List ByteArray) (l : List (Int × Int × ByteArray)) (hn : ks.length = l.length) (hm : l.length ≤ 1000) (A1 A2 : Option Addr) (c1 c2 : Nat) (w : World) (g1 : Kd.string.C w A1 ks.length ks) (l1 : ks.length ≤ c1) (g2 : k25.C w A2 (l.map leafN).length (l.map leafN)) (l2 : (l.map leafN).length ≤ c2) :
    Calls Try.prog 105 #[.slice A1 ks.length c1, .slice A2 (l.map leafN).length c2] w fun e w' => Made w (mapV ks (l.map leafN) ks.length) e w' :=
  mapOf_calls ks (l.map leafN) A1 A2 c1 c2 w g1 l1 g2 l2 (by rw [List.length_map]; exact hn) (by omega) (fun i hi => by have := cnt_mapV ks l i (by omega); omega) (fun y hy => by rw [cnt_leaf l y hy]; omega)
theorem mapLS_calls (ks : List ByteArray) (l : List (Int × Int × ByteArray)) (hn : ks.length = l.length) (hm : l.length ≤ 1000) (A1 A2 : Option Addr) (c1 c2 : Nat) (w : World) (g1 : Kd.string.C w A1 ks.length ks) (l1 : ks.length ≤ c1) (g2 : k25.C w A2 (l.map leafN).length (l.map leafN)) (l2 : (l.map leafN).length ≤ c2) :
    Calls Try.prog 103 #[.slice A1 ks.length c1, .slice A2 (l.map leafN).length c2] w fun e w' => Made w (mapV ks (l.map leafN) ks.length) e w' :=
  mapS_calls ks (l.map leafN) A1 A2 c1 c2 w g1 l1 g2 l2 (by rw [List.length_map]; exact hn) (by omega) (fun i hi => by have := cnt_mapV ks l i (by omega); omega) (fun y hy => by rw [cnt_leaf l y hy]; omega)
set_option maxHeartbeats 4000000 in
set_option maxRecDepth 100000 in
theorem intI_calls (n : Int) (w : World) : Calls Try.prog 20 #[.int .i64 n] w fun e w' => e = .returned (.agg #[.int .i64 2, .int .i64 n, .string ⟨#[]⟩, .slice none 0 0, .slice none 0 0]) ∧ Below w.heap.size w w' := by
  have hu := Try.underlying25
  go_enter Try.func20, Try.ntmps20
  go_wp2_with (first
    | ((with_reducible refine gate_dst (N := 2) rfl ?_); refine box_event rfl (N := 2) rfl (cs := #[.int .i64 0, .int .i64 0, .string ⟨#[]⟩, .slice none 0 0, .slice none 0 0]) (t := 25) (by first | (go_simp; done) | (go_simp; rfl)) ?_; intro gr hg wb bk hb; have GEr := Lib.hid (Nat.le_of_eq hg.symm); have BKr := Lib.hid bk; have HB := Lib.hid hb; clear hg bk hb; obtain ⟨z0, z1, z2, z3, z4⟩ := cells5 BKr.out; obtain ⟨f0, f1, f2, f3, f4⟩ := free5 BKr.out)
    | ((with_reducible refine gate_store (p := 2) rfl ?_); refine store5_event rfl rfl rfl (g := gr) (.int .i64 2) (.int .i64 n) (.string ⟨#[]⟩) (.slice none 0 0) (.slice none 0 0) BKr.out (by first | (go_simp; done) | (go_simp; rfl)) ?_; intro wz bk hc; replace HB := Lib.hid (below_chg HB.out HB.out.size hc (fun k e => e ▸ GEr.out)); replace BKr := Lib.hid bk; clear bk hc z0 z1 z2 z3 z4 f0 f1 f2 f3 f4))
  exact bodyPost_ret (results_cell_row rfl _ _ gr 25 _ (0, 0) _ rfl BKr.out Try.underlying25 rfl (by kernel_rfl)) rfl ⟨rfl, HB.out⟩
set_option maxHeartbeats 4000000 in
set_option maxRecDepth 100000 in
theorem textI_calls (s : ByteArray) (w : World) : Calls Try.prog 25 #[.string s] w fun e w' => e = .returned (.agg #[.int .i64 3, .int .i64 0, .string s, .slice none 0 0, .slice none 0 0]) ∧ Below w.heap.size w w' := by
  have hu := Try.underlying25
  go_enter Try.func25, Try.ntmps25
  go_wp2_with (first
    | ((with_reducible refine gate_dst (N := 2) rfl ?_); refine box_event rfl (N := 2) rfl (cs := #[.int .i64 0, .int .i64 0, .string ⟨#[]⟩, .slice none 0 0, .slice none 0 0]) (t := 25) (by first | (go_simp; done) | (go_simp; rfl)) ?_; intro gr hg wb bk hb; have GEr := Lib.hid (Nat.le_of_eq hg.symm); have BKr := Lib.hid bk; have HB := Lib.hid hb; clear hg bk hb; obtain ⟨z0, z1, z2, z3, z4⟩ := cells5 BKr.out; obtain ⟨f0, f1, f2, f3, f4⟩ := free5 BKr.out)
    | ((with_reducible refine gate_store (p := 2) rfl ?_); refine store5_event rfl rfl rfl (g := gr) (.int .i64 3) (.int .i64 0) (.string s) (.slice none 0 0) (.slice none 0 0) BKr.out (by first | (go_simp; done) | (go_simp; rfl)) ?_; intro wz bk hc; replace HB := Lib.hid (below_chg HB.out HB.out.size hc (fun k e => e ▸ GEr.out)); replace BKr := Lib.hid bk; clear bk hc z0 z1 z2 z3 z4 f0 f1 f2 f3 f4))
  exact bodyPost_ret (results_cell_row rfl _ _ gr 25 _ (0, 0) _ rfl BKr.out Try.underlying25 rfl (by kernel_rfl)) rfl ⟨rfl, HB.out⟩
set_option maxHeartbeats 4000000 in
set_option maxRecDepth 100000 in
theorem intS_calls (n : Int) (w : World) : Calls Try.prog 19 #[.int .i64 n] w fun e w' => e = .returned (.agg #[.int .i64 2, .int .i64 n, .string ⟨#[]⟩, .slice none 0 0, .slice none 0 0]) ∧ Below w.heap.size w w' := by
  have hu := Try.underlying25
  go_enter Try.func19, Try.ntmps19
  go_wp2_with (first
    | ((with_reducible refine gate_dst (N := 2) rfl ?_); refine box_event rfl (N := 2) rfl (cs := #[.int .i64 0, .int .i64 0, .string ⟨#[]⟩, .slice none 0 0, .slice none 0 0]) (t := 25) (by first | (go_simp; done) | (go_simp; rfl)) ?_; intro gr hg wb bk hb; have GEr := Lib.hid (Nat.le_of_eq hg.symm); have BKr := Lib.hid bk; have HB := Lib.hid hb; clear hg bk hb; obtain ⟨z0, z1, z2, z3, z4⟩ := cells5 BKr.out; obtain ⟨f0, f1, f2, f3, f4⟩ := free5 BKr.out)
    | ((with_reducible refine gate_store (p := 2) rfl ?_); refine store5_event rfl rfl rfl (g := gr) (.int .i64 2) (.int .i64 n) (.string ⟨#[]⟩) (.slice none 0 0) (.slice none 0 0) BKr.out (by first | (go_simp; done) | (go_simp; rfl)) ?_; intro wz bk hc; replace HB := Lib.hid (below_chg HB.out HB.out.size hc (fun k e => e ▸ GEr.out)); replace BKr := Lib.hid bk; clear bk hc z0 z1 z2 z3 z4 f0 f1 f2 f3 f4))
  exact bodyPost_ret (results_cell_row rfl _ _ gr 25 _ (0, 0) _ rfl BKr.out Try.underlying25 rfl (by kernel_rfl)) rfl ⟨rfl, HB.out⟩
set_option maxHeartbeats 4000000 in
set_option maxRecDepth 100000 in
theorem textS_calls (s : ByteArray) (w : World) : Calls Try.prog 24 #[.string s] w fun e w' => e = .returned (.agg #[.int .i64 3, .int .i64 0, .string s, .slice none 0 0, .slice none 0 0]) ∧ Below w.heap.size w w' := by
  have hu := Try.underlying25
  go_enter Try.func24, Try.ntmps24
  go_wp2_with (first
    | ((with_reducible refine gate_dst (N := 2) rfl ?_); refine box_event rfl (N := 2) rfl (cs := #[.int .i64 0, .int .i64 0, .string ⟨#[]⟩, .slice none 0 0, .slice none 0 0]) (t := 25) (by first | (go_simp; done) | (go_simp; rfl)) ?_; intro gr hg wb bk hb; have GEr := Lib.hid (Nat.le_of_eq hg.symm); have BKr := Lib.hid bk; have HB := Lib.hid hb; clear hg bk hb; obtain ⟨z0, z1, z2, z3, z4⟩ := cells5 BKr.out; obtain ⟨f0, f1, f2, f3, f4⟩ := free5 BKr.out)
    | ((with_reducible refine gate_store (p := 2) rfl ?_); refine store5_event rfl rfl rfl (g := gr) (.int .i64 3) (.int .i64 0) (.string s) (.slice none 0 0) (.slice none 0 0) BKr.out (by first | (go_simp; done) | (go_simp; rfl)) ?_; intro wz bk hc; replace HB := Lib.hid (below_chg HB.out HB.out.size hc (fun k e => e ▸ GEr.out)); replace BKr := Lib.hid bk; clear bk hc z0 z1 z2 z3 z4 f0 f1 f2 f3 f4))
  exact bodyPost_ret (results_cell_row rfl _ _ gr 25 _ (0, 0) _ rfl BKr.out Try.underlying25 rfl (by kernel_rfl)) rfl ⟨rfl, HB.out⟩
end Go.Proofs.Ytnbnpgjgibcmpaa.H
