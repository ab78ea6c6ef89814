/- What the steps of a law that marks its answer do: sizes, trees that come in, equality, marks. -/
import Derived.Test.YtnbnpgjgibcmpaaAid
import Derived.Test.YtnbnpgjgibcmpaaCopy
import Derived.Test.YtnbnpgjgibcmpaaEv
import Derived.Test.YtnbnpgjgibcmpaaHeld
import Derived.Test.YtnbnpgjgibcmpaaLists
import Derived.Test.YtnbnpgjgibcmpaaMake
import Derived.Test.YtnbnpgjgibcmpaaMark
import Derived.Test.YtnbnpgjgibcmpaaOwn
import Derived.Test.YtnbnpgjgibcmpaaP_laws_eqStringS
import Derived.Test.YtnbnpgjgibcmpaaP_laws_markNode
import Derived.Test.YtnbnpgjgibcmpaaP_laws_szStringS
import Derived.Test.YtnbnpgjgibcmpaaTree
import Derived.Test.YtnbnpgjgibcmpaaTreeIn
namespace Go.Proofs.Ytnbnpgjgibcmpaa.H
open Go.RowKit Go.Proofs.Ytnbnpgjgibcmpaa.P Go.Proofs.YtnbnpgjgibcmpaaW.PrintWords Go.Proofs.Ytnbnpgjgibcmpaa.M Go.Proofs.Ytnbnpgjgibcmpaa.O
set_option linter.unusedVariables false

section
variable {P : Program} {ops : Array Oper} {rest : List Oper} {o : Oper} {a : Act} {Q : Exit → Act → World → Prop}
theorem put5 {W : World} {g : Nat} {t : TypeId} {a0 a1 a2 a3 a4 : Value} (h : W.heap[g]? = some (.cells #[a0, a1, a2, a3, a4] t (0, 0))) (u0 u1 u2 u3 u4 : Value) :
    (((((W.setCell ⟨g, 0, none⟩ u0).setCell ⟨g, 1, none⟩ u1).setCell ⟨g, 2, none⟩ u2).setCell ⟨g, 3, none⟩ u3).setCell ⟨g, 4, none⟩ u4).heap[g]? = some (.cells #[u0, u1, u2, u3, u4] t (0, 0)) :=
  blk_put (blk_put (blk_put (blk_put (blk_put h 0 u0 rfl) 1 u1 rfl) 2 u2 rfl) 3 u3 rfl) 4 u4 rfl
theorem chg_at (w : World) (g i : Nat) (u : Value) : Chg (fun k => k = g) w (w.setCell ⟨g, i, none⟩ u) := Chg.set w ⟨g, i, none⟩ u rfl
/-- A record of five cells, stored into a block of its own. -/
theorem store5_event {W : World} (hgd : o.guard = none) {t : TypeId} {p : Tmp} {v : Operand} (_ho : o.op = .store t (.tmp p) v) (hN : o.dst = none) {g : Nat} {a0 a1 a2 a3 a4 : Value} (u0 u1 u2 u3 u4 : Value)
    (bk : W.heap[g]? = some (.cells #[a0, a1, a2, a3, a4] t (0, 0)))
    (hrun : (execOp a.eval o).run P W = .ok .skip (((((W.setCell ⟨g, 0, none⟩ u0).setCell ⟨g, 1, none⟩ u1).setCell ⟨g, 2, none⟩ u2).setCell ⟨g, 3, none⟩ u3).setCell ⟨g, 4, none⟩ u4))
    (h : ∀ w', w'.heap[g]? = some (.cells #[u0, u1, u2, u3, u4] t (0, 0)) → Chg (fun k => k = g) W w' → wpList P ops Q rest a w') : wpList P ops Q (o :: rest) a W :=
  store_event hgd _ho hN hrun (fun w' e => h w' (e ▸ put5 bk u0 u1 u2 u3 u4) (e ▸ ((((chg_at W g 0 u0).trans (chg_at _ g 1 u1)).trans (chg_at _ g 2 u2)).trans (chg_at _ g 3 u3)).trans (chg_at _ g 4 u4)))
theorem cells5 {W : World} {g : Nat} {t : TypeId} {a0 a1 a2 a3 a4 : Value} (h : W.heap[g]? = some (.cells #[a0, a1, a2, a3, a4] t (0, 0))) : W.cell? ⟨g, 0, none⟩ = some a0 ∧ W.cell? ⟨g, 1, none⟩ = some a1 ∧ W.cell? ⟨g, 2, none⟩ = some a2 ∧ W.cell? ⟨g, 3, none⟩ = some a3 ∧ W.cell? ⟨g, 4, none⟩ = some a4 :=
  ⟨(blk_cell h 0).trans rfl, (blk_cell h 1).trans rfl, (blk_cell h 2).trans rfl, (blk_cell h 3).trans rfl, (blk_cell h 4).trans rfl⟩
theorem free5 {W : World} {g : Nat} {t : TypeId} {cs : Array Value} (h : W.heap[g]? = some (.cells cs t (0, 0))) : W.frozen? ⟨g, 0, none⟩ = false ∧ W.frozen? ⟨g, 1, none⟩ = false ∧ W.frozen? ⟨g, 2, none⟩ = false ∧ W.frozen? ⟨g, 3, none⟩ = false ∧ W.frozen? ⟨g, 4, none⟩ = false :=
  ⟨blk_frozen h 0, blk_frozen h 1, blk_frozen h 2, blk_frozen h 3, blk_frozen h 4⟩
end
theorem blk_chg {S : Nat → Prop} {w w1 : World} {g : Nat} {o : Obj} (h : w.heap[g]? = some o) (hc : Chg S w w1) (hs : ¬ S g) : w1.heap[g]? = some o := (hc.block g (blk_lt h) hs).trans h
theorem ORow_below {w w1 : World} {v : Value} {kids : List S25} {fss : List (List Nat)} (h : ORow w v kids fss) (hb : Below w.heap.size w w1) : ORow w1 v kids fss := ORow_chg (Chg.of_same (S := fun _ => False) hb) h (fun _ _ e => e) (fun _ _ e => e)
theorem ORow_at {w : World} {P : Option Addr} {m p : Nat} {kids : List S25} {fss : List (List Nat)} (h : ORow w (.slice P m p) kids fss) : k25.C w P kids.length kids := by
  obtain ⟨A, c, e, _, hc⟩ := ORow_C h
  injection e with e1 _ _
  rw [e1]
  exact hc
theorem ORow_lt {w : World} {v : Value} {kids : List S25} {fss : List (List Nat)} (h : ORow w v kids fss) : ∀ k ∈ v.ownBlock.toList ++ fss.flatten, k < w.heap.size := by
  obtain ⟨inner, h3, h4, h5⟩ := h
  intro k hk
  simp only [List.mem_append, mem_own, List.mem_flatten] at hk
  rcases hk with hk | ⟨f, hf, hk⟩
  · exact (h3.lt k hk).2
  · obtain ⟨i, hi, rfl⟩ := List.getElem_of_mem hf
    exact OT_lt _ _ _ (h5 i (by omega) _ (List.getElem?_eq_getElem hi)) k hk
theorem below_chg {S : Nat → Prop} {B : Nat} {w w1 w2 : World} (h : Below B w w1) (hB : B ≤ w1.heap.size) (hc : Chg S w1 w2) (hs : ∀ k, S k → B ≤ k) : Below B w w2 := h.trans (hc.below hs hB)
/-- A tree's Keys and Kids may be read. -/
def Seen (w : World) (v3 v4 : Value) (x : S25) : Prop := ∃ A3 c3 A4 c4, v3 = .slice A3 x.f3.length c3 ∧ v4 = .slice A4 x.f4.length c4 ∧ Kd.C Kd.string w A3 x.f3.length x.f3 ∧ x.f3.length ≤ c3 ∧ k25.C w A4 x.f4.length x.f4 ∧ x.f4.length ≤ c4
theorem Seen.below {w w1 : World} {v3 v4 : Value} {x : S25} (h : Seen w v3 v4 x) (hb : Below w.heap.size w w1) : Seen w1 v3 v4 x := by
  obtain ⟨A3, c3, A4, c4, e3, e4, g3, l3, g4, l4⟩ := h
  exact ⟨A3, c3, A4, c4, e3, e4, Kd.C_below g3 hb, l3, Kd.C_below g4 hb, l4⟩
theorem Seen.of_top {w : World} {v3 v4 : Value} {x : S25} {fss : List (List Nat)} (h : Top w v3 v4 x fss) : Seen w v3 v4 x := by
  obtain ⟨A3, c3, e3, l3, g3⟩ := SRow_C h.1
  obtain ⟨A4, c4, e4, l4, g4⟩ := ORow_C h.2.1
  exact ⟨A3, c3, A4, c4, e3, e4, g3, l3, g4, l4⟩
theorem Seen.of_R {w : World} {v3 v4 : Value} {b : Nat} {ok ok' : Nat → Prop} {r3 : List ByteArray} {r4 : List S25} (r1 r2 : Int) (s : ByteArray) (h3 : Kd.R Kd.string 9 w b ok v3 r3) (h4 : Kd.R k25 25 w b ok' v4 r4) : Seen w v3 v4 ⟨r1, r2, s, r3, r4⟩ := by
  obtain ⟨A3, c3, e3, l3, g3⟩ := Kd.R_reads h3
  obtain ⟨A4, c4, e4, l4, g4⟩ := Kd.R_reads h4
  exact ⟨A3, c3, A4, c4, e3, e4, g3, l3, g4, l4⟩
theorem rnd_cntK (x : S25) : rnd x + 1 ≤ 2 * cntK x := by
  refine tree_ind (P := fun x => rnd x + 1 ≤ 2 * cntK x) (fun x ih => ?_) x
  rw [rnd_eq, cntK_eq]
  have : ∀ l : List S25, (∀ y ∈ l, rnd y + 1 ≤ 2 * cntK y) → (l.map rnd).sum + l.length ≤ 2 * (l.map cntK).sum := by
    intro l
    induction l with
    | nil => intro _; simp
    | cons y ys ihl =>
      intro h
      have h1 := h y (by simp)
      have h2 := ihl (fun z hz => h z (by simp [hz]))
      simp only [List.map_cons, List.sum_cons, List.length_cons]
      omega
  have := this x.f4 ih
  omega
theorem rnd_cnt (x : S25) : rnd x ≤ 2 * cntTop x + 5 := by
  have h := rnd_cntK x
  rw [cntK_eq] at h
  unfold cntTop
  omega
theorem eq_ev (x : S25) (h : cntTop x ≤ 549755813880) : Ev (fun k => laws_eqNode.f k x.f0 x.f1 x.f2 x.f3 x.f4 x.f0 x.f1 x.f2 x.f3 x.f4) true := by
  have h1 := rnd_cnt x
  have := Ev.past (fun k hk => eqNode_eq (rnd x) x x (Nat.le_refl _) (by omega) k hk)
  rwa [dec_true rfl] at this
/-- Two trees that are the same are told to be. -/
theorem eqN_calls (x : S25) (h : cntTop x ≤ 549755813880) {w : World} {v3 v4 u3 u4 : Value} (h1 : Seen w v3 v4 x) (h2 : Seen w u3 u4 x) :
    Calls Try.prog 21 #[.agg #[.int .i64 x.f0, .int .i64 x.f1, .string x.f2, v3, v4], .agg #[.int .i64 x.f0, .int .i64 x.f1, .string x.f2, u3, u4]] w fun e w' => e = .returned (.bool true) ∧ Below w.heap.size w w' := by
  obtain ⟨A3, c3, A4, c4, rfl, rfl, g3, l3, g4, l4⟩ := h1
  obtain ⟨B3, d3, B4, d4, rfl, rfl, p3, q3, p4, q4⟩ := h2
  obtain ⟨k, hk⟩ := (eq_ev x h).rounds
  exact laws_eqNode.calls k _ _ _ _ _ _ _ _ _ _ _ _ _ _ _ _ _ _ true w g3 l3 g4 l4 p3 q3 p4 q4 hk
theorem eqR_ev (l : List S25) (h : (l.map cntK).sum ≤ 549755813880) : ∃ k, laws_eqNodeS.f k l l = some true := by
  obtain ⟨k, hk⟩ := (eq_ev ⟨0, 0, ⟨#[]⟩, [], l⟩ (by unfold cntTop; simpa using h)).rounds
  cases k with
  | zero => simp [laws_eqNode.f] at hk
  | succ k =>
    refine ⟨k, ?_⟩
    simp only [laws_eqNode.f, if_true] at hk
    rw [Option.bind_eq_some_iff] at hk
    obtain ⟨t, _, h2⟩ := hk
    cases t with
    | false => simp at h2
    | true =>
      simp only [if_true] at h2
      rw [Option.bind_eq_some_iff] at h2
      obtain ⟨u, h3, h4⟩ := h2
      cases u with
      | false => simp at h4
      | true => exact h3
/-- .. and two rows. -/
theorem eqR_calls (l : List S25) (h : (l.map cntK).sum ≤ 549755813880) {w : World} {A B : Option Addr} {c d : Nat} (h1 : k25.C w A l.length l) (l1 : l.length ≤ c) (h2 : k25.C w B l.length l) (l2 : l.length ≤ d) :
    Calls Try.prog 41 #[.slice A l.length c, .slice B l.length d] w fun e w' => e = .returned (.bool true) ∧ Below w.heap.size w w' := by
  obtain ⟨k, hk⟩ := eqR_ev l h
  exact laws_eqNodeS.calls k _ _ _ _ _ _ true w h1 l1 h2 l2 hk
/-- What was marked is held. -/
theorem held_calls (x : S25) {w : World} {v3 v4 : Value} {fss : List (List Nat)} (n : Nat) (h : Top w v3 v4 x fss) (hm : MkTop x 1) (hn : cntTop x = n) (hl : n ≤ 549755813880) :
    Calls Try.prog 23 #[.agg #[.int .i64 x.f0, .int .i64 x.f1, .string x.f2, v3, v4], .int .i64 1] w fun e w' => e = .returned (.int .i64 (1 + (n : Nat))) ∧ Below w.heap.size w w' := by
  obtain ⟨A3, c3, A4, c4, rfl, rfl, g3, l3, g4, l4⟩ := Seen.of_top h
  obtain ⟨k, hk⟩ := (held_ev x 1 hm (by omega) (by omega) (by omega)).rounds
  rw [hn] at hk
  exact laws_heldNode.calls k _ _ _ _ _ _ _ _ _ _ _ w g3 l3 g4 l4 hk
theorem heldAny_calls (a b : Int) (s : ByteArray) (x : S25) {w : World} {v3 v4 : Value} {fss : List (List Nat)} (n : Nat) (h : Top w v3 v4 x fss) (hm : MkTop x 1) (hn : cntTop x = n) (hl : n ≤ 549755813880) :
    Calls Try.prog 23 #[.agg #[.int .i64 a, .int .i64 b, .string s, v3, v4], .int .i64 1] w fun e w' => e = .returned (.int .i64 (1 + (n : Nat))) ∧ Below w.heap.size w w' :=
  held_calls ⟨a, b, s, x.f3, x.f4⟩ n h hm hn hl
theorem markTop_calls (x : S25) (n : Nat) (hn : cntTop x = n) {v3 v4 : Value} {fss : List (List Nat)} {w : World} (h : Top w v3 v4 x fss) (hl : n ≤ 549755813880) :
    Calls Try.prog 22 #[.agg #[.int .i64 x.f0, .int .i64 x.f1, .string x.f2, v3, v4], .int .i64 1] w fun e w' => ∃ x' : S25, e = .returned (.int .i64 (1 + (n : Nat))) ∧ cntTop x' = n ∧ MkTop x' 1 ∧ Top w' v3 v4 x' fss ∧ Chg (fun k => k ∈ topFp v3 v4 fss ∨ w.heap.size ≤ k) w w' :=
  (mark_calls x v3 v4 fss 1 w h (by decide) (by omega)).mono fun e w' ⟨x', he, _, _, _, h1, h2, h3, h4⟩ => ⟨x', by rw [← hn]; exact he, h1.trans hn, h2, h3, h4⟩
theorem markRow_calls (l : List S25) (n : Nat) (hn : (l.map cntK).sum = n) {v : Value} {fss : List (List Nat)} {w : World} (h : ORow w v l fss) (hd : (v.ownBlock.toList ++ fss.flatten).Nodup) (hl : n ≤ 549755813880) (k0 : Int) (h0 : 0 ≤ k0) (h1 : k0 ≤ 549755813880) :
    Calls Try.prog 42 #[v, .int .i64 k0] w fun e w' => e = .returned (.int .i64 (k0 + (n : Nat))) ∧ Chg (fun k => k ∈ v.ownBlock.toList ++ fss.flatten) w w' :=
  (markN_calls _ l v fss k0 w (Nat.le_refl _) h hd h0 (by omega)).mono fun e w' ⟨_, he, _, _, _, h4⟩ => ⟨by rw [← hn]; exact he, h4.mono (fun k _ e => by simp only [List.mem_append, mem_own]; exact e)⟩
/-! What comes in, measured. -/
theorem szR_eq (l : List S36) (hl : l.length ≤ maxLen) (hg : ∀ x ∈ l, good36 x) (left : Int) (h0 : 0 ≤ left) (h1 : left ≤ 1048576) : ∃ k, laws_szNodeS.f k l left = some (szLeft (l.length + (l.map totT).sum) left) := by
  unfold maxLen at hl
  refine ⟨(l.map (rnd ∘ toT)).sum + l.length + 2 + 1, ?_⟩
  generalize hk0 : (l.map (rnd ∘ toT)).sum + l.length + 2 = k
  simp only [laws_szNodeS.f]
  rw [w64 (by omega) (by omega)]
  by_cases h : left - (l.length : Int) < 0
  · rw [if_pos h]
    unfold szLeft
    rw [if_neg (by omega)]
  · rw [if_neg h]
    have e := sz_loop (g := fun k left i => laws_szNodeS.l0 k l left i) (xs := l) (K := (l.map (rnd ∘ toT)).sum + 1) totT (fun k left _ => by simp only [laws_szNodeS.l0]; rw [if_neg (by omega)])
      (fun k left i hi hk hl0 hl1 => by
        simp only [laws_szNodeS.l0]
        have hm := List.getElem_mem hi
        have hr : rnd (toT l[i]) ≤ (l.map (rnd ∘ toT)).sum := mem_le_sum (rnd ∘ toT) l _ hm
        obtain ⟨n, hn⟩ := hg _ hm
        rw [if_pos (by omega), if_pos (by omega), rdT' _ _ hi, szNode_eq n _ hn left k hl0 hl1 (by omega), Option.bind_some, wsucc (by omega)])
      l.length 0 k (left - l.length) (by omega) (by omega) (by omega) (by omega)
    have e0 : ((0 : Nat) : Int) = 0 := rfl
    rw [e0, List.drop_zero] at e
    rw [e]
    unfold szLeft
    by_cases h2 : (((l.map totT).sum : Nat) : Int) ≤ left - l.length
    · rw [if_pos h2, if_pos (by omega)]; congr 1; omega
    · rw [if_neg h2, if_neg (by omega)]
theorem szR_calls (l : List S36) (hl : l.length ≤ maxLen) (hg : ∀ x ∈ l, good36 x) (left : Int) (h0 : 0 ≤ left) (h1 : left ≤ 1048576) {A : Option Addr} {c : Nat} {w : World} (hr : k36.C w A l.length l) (hc : l.length ≤ c) :
    Calls Try.prog 39 #[.slice A l.length c, .int .i64 left] w fun e w' => e = .returned (.int .i64 (szLeft (l.length + (l.map totT).sum) left)) ∧ Below w.heap.size w w' := by
  obtain ⟨k, hk⟩ := szR_eq l hl hg left h0 h1
  exact laws_szNodeS.calls k _ _ _ _ _ w hr hc hk
theorem szN_calls (a : S36) (hg : good36 a) (left : Int) (h0 : 0 ≤ left) (h1 : left ≤ 1048576) {A3 A4 : Option Addr} {c3 c4 : Nat} {w : World} (g3 : Kd.C Kd.string w A3 a.f3.length a.f3) (l3 : a.f3.length ≤ c3) (g4 : k36.C w A4 a.f4.length a.f4) (l4 : a.f4.length ≤ c4) :
    Calls Try.prog 28 #[.agg #[.int .i64 a.f0, .int .i64 a.f1, .string a.f2, .slice A3 a.f3.length c3, .slice A4 a.f4.length c4], .int .i64 left] w fun e w' => e = .returned (.int .i64 (szLeft (totT a) left)) ∧ Below w.heap.size w w' := by
  obtain ⟨n, hn⟩ := hg
  exact laws_szNode.calls (rnd (toT a) + 1) _ _ _ _ _ _ _ _ _ _ _ w g3 l3 g4 l4 (szNode_eq n a hn left _ h0 h1 (by omega))
theorem cntK_toT (n : Nat) (a : S36) (h : goodN36 n a) : cntK (toT a) ≤ 3 * totT a + 3 := by
  induction n generalizing a with
  | zero => exact h.elim
  | succ n ih =>
    rw [cntK_eq, totT_eq, toT_eq]
    have : ∀ l : List S36, (∀ x ∈ l, cntK (toT x) ≤ 3 * totT x + 3) → ((l.map toT).map cntK).sum ≤ 3 * (l.map totT).sum + 3 * l.length := by
      intro l
      induction l with
      | nil => intro _; simp
      | cons y ys ihl =>
        intro h
        have h1 := h y (by simp)
        have h2 := ihl (fun z hz => h z (by simp [hz]))
        simp only [List.map_cons, List.sum_cons, List.length_cons]
        omega
    have := this a.f4 (fun x hx => ih x (h.2.2.2.2.2 x hx))
    simp only
    omega
theorem cntR_toT (l : List S36) (hg : ∀ x ∈ l, good36 x) : ((l.map toT).map cntK).sum ≤ 3 * (l.map totT).sum + 3 * l.length := by
  induction l with
  | nil => simp
  | cons y ys ihl =>
    obtain ⟨n, hn⟩ := hg y (by simp)
    have h1 := cntK_toT n y hn
    have h2 := ihl (fun z hz => hg z (by simp [hz]))
    simp only [List.map_cons, List.sum_cons, List.length_cons]
    omega
theorem cntTop_toT (a : S36) (hg : good36 a) : cntTop (toT a) ≤ 3 * totT a := by
  obtain ⟨n, hn⟩ := hg
  have h := cntK_toT n a hn
  rw [cntK_eq] at h
  unfold cntTop
  omega
theorem toRow_all (l : List S36) (hg : ∀ x ∈ l, good36 x) (ht : l.length + (l.map totT).sum ≤ 1048576) : ToRow l :=
  toRow_of l (by omega) (fun x hx => by
    obtain ⟨n, hn⟩ := hg x hx
    have := mem_le_sum totT l x hx
    exact toTree_all n x hn (by omega))
theorem toTree_good (a : S36) (hg : good36 a) (ht : totT a ≤ 1048576) : ToTree a := by
  obtain ⟨n, hn⟩ := hg
  exact toTree_all n a hn ht
end Go.Proofs.Ytnbnpgjgibcmpaa.H
