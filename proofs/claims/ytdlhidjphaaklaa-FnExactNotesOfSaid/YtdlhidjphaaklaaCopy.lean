/- copyTree: a tree of one's own, as the one that came in. -/
import Derived.Test.YtdlhidjphaaklaaAid
import Derived.Test.YtdlhidjphaaklaaLists
import Derived.Test.YtdlhidjphaaklaaMark
import Derived.Test.YtdlhidjphaaklaaOwn
import Derived.Test.YtdlhidjphaaklaaShelf
namespace Go.Proofs.Ytdlhidjphaaklaa.H
open Go.RowKit Go.Proofs.Ytdlhidjphaaklaa.P Go.Proofs.YtdlhidjphaaklaaW.PrintWords Go.Proofs.Ytdlhidjphaaklaa.M
set_option linter.unusedVariables false
set_option linter.unusedSimpArgs false

/-- A row of texts that may be read: where its cells lie. -/
theorem C_cells {A : Option Addr} {l : List ByteArray} {w : World} (h0 : 0 < l.length) (hr : Kd.C Kd.string w A l.length l) : ∃ b off, A = some ⟨b, off, none⟩ ∧ ∀ j, j < l.length → w.cell? ⟨b, off + j, none⟩ = some (.string (l.getD j ByteArray.empty)) := by
  obtain ⟨ad, rfl, hc⟩ := hr.2.2 h0
  have hg : ∀ j, j < l.length → ad.spot = none ∧ w.cell? (ad.add j) = some (.string (l.getD j ByteArray.empty)) := by
    intro j hj
    obtain ⟨cs, h1, h2, h3⟩ := hc j _ (List.getElem?_eq_getElem hj)
    have h2' : cs = [Value.string l[j]] := h2
    subst h2'
    have h4 := h3 0 _ rfl
    rw [show j * Kd.string.sz + 0 = j by show j * 1 + 0 = j; omega] at h4
    obtain ⟨cs0, p1, p2, p3⟩ := hc 0 _ (List.getElem?_eq_getElem h0)
    have p2' : cs0 = [Value.string l[0]] := p2
    subst p2'
    have p4 := p3 0 _ rfl
    rw [show 0 * Kd.string.sz + 0 = 0 by omega] at p4
    refine ⟨?_, by rw [List.getD_eq_getElem?_getD, List.getElem?_eq_getElem hj]; exact h4⟩
    cases hs : ad.spot with
    | none => rfl
    | some s =>
      exfalso
      rw [show ad.add 0 = ad from rfl] at p4
      unfold World.cell? at p4
      split at p4
      · rw [hs] at p4; simp at p4
      · cases p4
  obtain ⟨b, off, sp⟩ := ad
  obtain rfl : sp = none := (hg 0 h0).1
  exact ⟨b, off, rfl, fun j hj => by have := (hg j hj).2; rw [Addr.add_lit] at this; exact this⟩
theorem copyS_calls (A : Option Addr) (c : Nat) (l : List ByteArray) (w : World) (hl : l.length ≤ 1099511627776) (hr : Kd.C Kd.string w A l.length l) :
    Calls Try.prog 51 #[.slice A l.length c] w fun e w' => ∃ v, e = .returned v ∧ SRow w' v l ∧ (∀ k, v.ownBlock = some k → w.heap.size ≤ k) ∧ Below w.heap.size w w' := by
  rcases Nat.eq_zero_or_pos l.length with h0 | h0
  · obtain rfl : l = [] := List.eq_nil_of_length_eq_zero h0
    cases A with
    | none =>
      refine (Try.slices_Clone_string_nil _ _ _).mono ?_
      rintro e w' ⟨rfl, rfl⟩
      exact ⟨_, rfl, World.ownsRow_nil _ _ _ _, (fun k (hk : (none : Option Nat) = some k) => by cases hk), Below.refl _ _⟩
    | some a =>
      refine (Try.slices_Clone_string_zero a _ _).mono ?_
      rintro e w' ⟨v, rfl, ho, _, hb⟩
      exact ⟨_, rfl, own_weaken ho (Nat.zero_le _), fun k hk => (ho.lt k hk).1, hb⟩
  · obtain ⟨b, off, rfl, hg⟩ := C_cells h0 hr
    refine (Try.slices_Clone_string b off l.length c l w (Nat.le_refl _) (by omega) hg).mono ?_
    rintro e w' ⟨v, rfl, ho, _, hb⟩
    rw [List.take_of_length_le (Nat.le_refl _)] at ho
    exact ⟨_, rfl, own_weaken ho (Nat.zero_le _), fun k hk => (ho.lt k hk).1, hb⟩
/-- What copyTree is to do. -/
def ToCopy (x : S33) : Prop := ∀ (A3 A4 : Option Addr) (c3 c4 : Nat) (w : World), Kd.C Kd.string w A3 x.f3.length x.f3 → x.f3.length ≤ c3 → k33.C w A4 x.f4.length x.f4 → x.f4.length ≤ c4 →
    Calls Try.prog 54 #[.agg #[.int .i64 x.f0, .int .i64 x.f1, .string x.f2, .slice A3 x.f3.length c3, .slice A4 x.f4.length c4]] w fun e w' => ∃ v3 v4 fss, e = .returned (.agg #[.int .i64 x.f0, .int .i64 x.f1, .string x.f2, v3, v4]) ∧ Top w' v3 v4 x fss ∧ (∀ k ∈ topFp v3 v4 fss, w.heap.size ≤ k) ∧ Below w.heap.size w w'
theorem rdT2 (xs : List S33) (i : Nat) (h : i < xs.length) : rd_T33 xs (i : Int) = xs[i] := by
  show xs.getD i _ = _
  rw [List.getD_eq_getElem?_getD, List.getElem?_eq_getElem h]
  rfl
theorem len_cnt (kids : List S33) : kids.length ≤ (kids.map cntK).sum := by
  induction kids with
  | nil => exact Nat.le_refl _
  | cons a l ih =>
    rw [List.length_cons, List.map_cons, List.sum_cons, cntK_eq]
    omega
section
variable {P : Program} {ops : Array Oper} {rest : List Oper} {o : Oper} {a : Act} {Q : Exit → Act → World → Prop}
/-- A literal with nothing in it. -/
theorem lit0_event {W : World} (hgd : o.guard = none) {N : Tmp} (_hd : o.dst = some N) {t : TypeId} (s : Nat)
    (hrun : (execOp a.eval o).run P W = .ok (.value (.slice (some ⟨W.heap.size, 0, none⟩) 0 0)) (W.alloc (.cells #[] t (0, 0))))
    (h : ∀ u w1, w1.ownsRow W.heap.size t s u 0 [] → u.ownBlock = some W.heap.size → Below W.heap.size W w1 → wpList P ops Q rest (a.put o.dst u) w1) : wpList P ops Q (o :: rest) a W :=
  Kd.event_run hgd hrun (h _ _ (World.ownsRow_lit (base := W.heap.size) (e := t) (size := s) W #[] 0 (Nat.le_refl _) (by decide) (by simp)) rfl (below_alloc (Below.refl _ _) _))
end
/-- The blocks of a row to which a fresh tree was appended. -/
theorem app_fp {a b b' c f : List Nat} {m n : Nat} (h : (a ++ (b ++ c)).Nodup) (hf : f.Nodup) (h1 : ∀ k ∈ a ++ (b ++ c), k < m) (h2 : ∀ k ∈ f, m ≤ k ∧ k < n) (h3 : b' = b ∨ ∃ q, b' = [q] ∧ n ≤ q) (hmn : m ≤ n) :
    (a ++ (b' ++ (c ++ f))).Nodup := by
  simp only [List.nodup_append, List.mem_append] at h h1 ⊢
  obtain ⟨ha, ⟨hb, hc, hbc⟩, habc⟩ := h
  rcases h3 with rfl | ⟨q, rfl, hq⟩
  · refine ⟨ha, ⟨hb, ⟨hc, hf, fun x hx y hy e => ?_⟩, fun x hx y hy e => ?_⟩, fun x hx y hy e => ?_⟩
    · have := h1 x (.inr (.inr hx)); have := (h2 y hy).1; omega
    · rcases hy with hy | hy
      · exact hbc x hx y hy e
      · have := h1 x (.inr (.inl hx)); have := (h2 y hy).1; omega
    · rcases hy with hy | hy | hy
      · exact habc x hx y (.inl hy) e
      · exact habc x hx y (.inr hy) e
      · have := h1 x (.inl hx); have := (h2 y hy).1; omega
  · refine ⟨ha, ⟨by simp, ⟨hc, hf, fun x hx y hy e => ?_⟩, fun x hx y hy e => ?_⟩, fun x hx y hy e => ?_⟩
    · have := h1 x (.inr (.inr hx)); have := (h2 y hy).1; omega
    · obtain rfl : x = q := by simpa using hx
      rcases hy with hy | hy
      · have := h1 y (.inr (.inr hy)); omega
      · have := (h2 y hy).2; omega
    · rcases hy with hy | hy | hy
      · have := h1 x (.inl hx); obtain rfl : y = q := by simpa using hy
        omega
      · exact habc x hx y (.inr hy) e
      · have := h1 x (.inl hx); have := (h2 y hy).1; omega
set_option maxHeartbeats 8000000 in
set_option maxRecDepth 100000 in
theorem copy_of (x : S33) (hc : cntTop x ≤ 1099511627776) (ih : ∀ y ∈ x.f4, ToCopy y) : ToCopy x := by
  intro A3 A4 c3 c4 w g3 l3 g4 l4
  have hu := Try.underlying33
  have hl3 : x.f3.length ≤ 1099511627776 := by unfold cntTop at hc; omega
  have hl4 : x.f4.length ≤ 1099511627776 := by have := len_cnt x.f4; unfold cntTop at hc; omega
  have G3 := Lib.hid g3
  have G4 := Lib.hid g4
  have IH := Lib.hid ih
  clear g3 g4 ih hc
  go_enter Try.func54, Try.ntmps54
  go_wp2_with (first
    | ((with_reducible refine gate_dst (N := 1) rfl ?_); refine box_event rfl (N := 1) rfl (cs := #[.int .i64 x.f0, .int .i64 x.f1, .string x.f2, .slice A3 x.f3.length c3, .slice A4 x.f4.length c4]) (t := 33) (by first | (go_simp; done) | (go_simp; rfl)) ?_; intro gb hgb wa bk hb; have HGB := Lib.hid hgb; have BKa := Lib.hid bk; have HBa := Lib.hid hb; clear hgb bk hb)
    | ((with_reducible refine gate_dst (N := 2) rfl ?_); refine box_event rfl (N := 2) rfl (cs := #[.int .i64 0, .int .i64 0, .string ⟨#[]⟩, .slice none 0 0, .slice none 0 0]) (t := 33) (by first | (go_simp; done) | (go_simp; rfl)) ?_; intro gr hgr wb bk hb; have HGR := Lib.hid hgr; have RSb := Lib.hid bk; have HBb := Lib.hid (HBa.out.trans (hb.mono HBa.out.size)); have BKb := Lib.hid (blk_below BKa.out hb); have y3 : wb.cell? ⟨gb, 3, none⟩ = some (.slice A3 x.f3.length c3) := (blk_cell BKb.out 3).trans rfl; clear hgr bk hb)
    | (go_at_call 51; refine (copyS_calls _ _ x.f3 _ hl3 (Kd.C_below G3.out HBb.out)).mono ?_; rintro e w1 ⟨v3, rfl, hs, hf, hb⟩; obtain ⟨B3, d3, rfl, m3, n3⟩ := SRow_C hs; have HS := Lib.hid hs; have HF := Lib.hid hf; have HB1 := Lib.hid (HBb.out.trans (hb.mono HBb.out.size)); have BK1 := Lib.hid (blk_below BKb.out hb); have RS1 := Lib.hid (blk_below RSb.out hb); have HSZ := Lib.hid hb.size; have f3 := blk_frozen BK1.out 3; have z3 : w1.cell? ⟨gb, 3, none⟩ = some (.slice A3 x.f3.length c3) := (blk_cell BK1.out 3).trans rfl; clear hs hf hb n3)
    | ((with_reducible refine gate_dst (N := 10) rfl ?_); refine lit0_event rfl (N := 10) rfl (t := 33) 5 (by first | (go_simp; done) | (go_simp; rfl)) ?_; intro u w2 hown hat hb; have BK2 := Lib.hid (blk_below (blk_set BK1.out 3 (.slice B3 x.f3.length d3)) hb); have y4 : w2.cell? ⟨gb, 4, none⟩ = some (.slice A4 x.f4.length c4) := (blk_cell BK2.out 4).trans rfl; have HO2 := Lib.hid hown; have HAT := Lib.hid hat; have HB := Lib.hid hb; clear hown hat hb))
  have hgb := HGB.out
  have hgr := HGR.out
  have hgb2 : gb < wa.heap.size := blk_lt BKa.out
  have hgb3 : gb < wb.heap.size := blk_lt BKb.out
  have hgr2 : gr < wb.heap.size := blk_lt RSb.out
  have hz1 := HSZ.out
  have hgw : w.heap.size ≤ gr := by have := HBa.out.size; omega
  have hne : gb ≠ gr := by omega
  have hse : (w1.setCell ⟨gb, 3, none⟩ (.slice B3 x.f3.length d3)).heap.size = w1.heap.size := by simp [World.setCell]
  have hsc : Chg (fun k => k = gb) w1 w2 := (Chg.set (S := fun k => k = gb) w1 ⟨gb, 3, none⟩ (.slice B3 x.f3.length d3) rfl).trans (Chg.of_same HB.out)
  have HS2 := Lib.hid (own_chg HS.out hsc (fun k hk e => by have := HF.out k hk; omega) : SRow w2 (.slice B3 x.f3.length d3) x.f3)
  have HBL2 := Lib.hid ((HB1.out.setCell (p := ⟨gb, 3, none⟩) (by show w.heap.size ≤ gb; omega) (.slice B3 x.f3.length d3)).trans (HB.out.mono (by rw [hse]; exact HB1.out.size)) : Below w.heap.size w w2)
  have RS2 := Lib.hid (blk_below (blk_far RS1.out (p := ⟨gb, 3, none⟩) (fun e => hne e.symm) (.slice B3 x.f3.length d3)) HB.out)
  have HO3 := Lib.hid (own_weaken HO2.out (by rw [hse]; exact HB1.out.size) : w2.ownsRow w.heap.size 33 5 u 0 [])
  have hkb : ∀ k, (Value.slice B3 x.f3.length d3).ownBlock = some k → k < w1.heap.size := fun k hk => (HS.out.lt k hk).2
  have HND : Hid (((Value.slice B3 x.f3.length d3).ownBlock.toList ++ (u.ownBlock.toList ++ ([] : List (List Nat)).flatten)).Nodup) := by
    show List.Nodup _
    rw [HAT.out, hse, List.flatten_nil, List.append_nil]
    refine List.nodup_append.2 ⟨by cases (Value.slice B3 x.f3.length d3).ownBlock <;> simp, by simp, fun k hk m hm e => ?_⟩
    have := hkb k (mem_own.1 hk)
    simp at hm
    omega
  have HGE : Hid (∀ k ∈ (Value.slice B3 x.f3.length d3).ownBlock.toList ++ (u.ownBlock.toList ++ ([] : List (List Nat)).flatten), wb.heap.size ≤ k) := by
    show ∀ k ∈ _, _
    intro k hk
    rw [HAT.out, hse, List.flatten_nil, List.append_nil, List.mem_append, mem_own] at hk
    rcases hk with hk | hk
    · exact HF.out k hk
    · simp at hk
      omega
  have HSZ2 : Hid (wb.heap.size ≤ w2.heap.size) := by show _ ≤ _; have := HB.out.size; rw [hse] at this; omega
  clear hz1 hse hsc hkb hgb hgr
  go_loopg [3, 14] (x.f4.length + 1) (fun kq v3 v14 w' => ∃ (i : Nat) (inr : List Value) (fs : List (List Nat)), v14 = .int .i64 i ∧ i ≤ x.f4.length ∧ kq + i = x.f4.length + 1 ∧ Aside0 (w'.ownsRow w.heap.size 33 5 v3 i inr) ∧ Aside0 (fs.length = i) ∧ Aside0 (∀ j (hj : j < x.f4.length) f, fs[j]? = some f → OT w' x.f4[j] ((inr.drop (j * 5)).take 5) f) ∧
    Aside0 (((Value.slice B3 x.f3.length d3).ownBlock.toList ++ (v3.ownBlock.toList ++ fs.flatten)).Nodup) ∧ Aside0 (∀ k ∈ (Value.slice B3 x.f3.length d3).ownBlock.toList ++ (v3.ownBlock.toList ++ fs.flatten), wb.heap.size ≤ k) ∧ Aside0 (SRow w' (.slice B3 x.f3.length d3) x.f3) ∧
    Aside0 (w'.heap[gb]? = some (.cells #[.int .i64 x.f0, .int .i64 x.f1, .string x.f2, .slice B3 x.f3.length d3, .slice A4 x.f4.length c4] 33 (0, 0))) ∧ Aside0 (w'.heap[gr]? = some (.cells #[.int .i64 0, .int .i64 0, .string ⟨#[]⟩, .slice none 0 0, .slice none 0 0] 33 (0, 0))) ∧ Aside0 (Below w.heap.size w w') ∧ Aside0 (wb.heap.size ≤ w'.heap.size))
  case atStart => exact ⟨0, [], [], rfl, Nat.zero_le _, by omega, ⟨HO3.out⟩, ⟨rfl⟩, ⟨fun j hj f hf => by simp at hf⟩, ⟨HND.out⟩, ⟨HGE.out⟩, ⟨HS2.out⟩, ⟨BK2.out⟩, ⟨RS2.out⟩, ⟨HBL2.out⟩, ⟨HSZ2.out⟩⟩
  case round =>
    obtain ⟨i, inr, fs, rfl, hi, hq, HRr, HFl, HT, HN, HG, HSr, BKr, RSr, HBr, HWB⟩ := hrel
    obtain ⟨k1, rfl⟩ : ∃ k1, gk = k1 + 1 := ⟨gk - 1, by omega⟩
    by_cases hlt : i < x.f4.length
    · have hltb : decide (i < x.f4.length) = true := decide_eq_true hlt
      obtain ⟨ad, A3', c3', A4', c4', ea, x0, x1, x2, x3, x4, l3', g3, l4', g4⟩ := at_T33 (Kd.C_below G4.out HBr.out) (i : Int) (by omega) (by omega)
      have er : rd_T33 x.f4 (i : Int) = x.f4[i] := rdT2 x.f4 i hlt
      rw [er] at x0 x1 x2 x3 x4 l3' g3 l4' g4
      rw [Int.toNat_natCast] at x0 x1 x2 x3 x4
      subst ea
      have G3' := Lib.hid g3
      have G4' := Lib.hid g4
      clear g3 g4 er
      go_wp2_with (first
        | ((with_reducible refine gate_dst (N := 5) rfl ?_); refine box_event rfl (N := 5) rfl (cs := #[.int .i64 0, .int .i64 0, .string ⟨#[]⟩, .slice none 0 0, .slice none 0 0]) (t := 33) (by first | (go_simp; done) | (go_simp; rfl)) ?_; intro g5 hg5 w5 bk hb; have HG5 := Lib.hid hg5; have BK5 := Lib.hid bk; have HB5 := Lib.hid hb; have q0 := blk_frozen BK5.out 0; have q1 := blk_frozen BK5.out 1; have q2 := blk_frozen BK5.out 2; have q3 := blk_frozen BK5.out 3; have q4 := blk_frozen BK5.out 4; have z0 : w5.cell? ⟨g5, 0, none⟩ = some (.int .i64 0) := (blk_cell BK5.out 0).trans rfl; have z1 : w5.cell? ⟨g5, 1, none⟩ = some (.int .i64 0) := (blk_cell BK5.out 1).trans rfl; have z2 : w5.cell? ⟨g5, 2, none⟩ = some (.string ⟨#[]⟩) := (blk_cell BK5.out 2).trans rfl; have z3 : w5.cell? ⟨g5, 3, none⟩ = some (.slice none 0 0) := (blk_cell BK5.out 3).trans rfl; have z4 : w5.cell? ⟨g5, 4, none⟩ = some (.slice none 0 0) := (blk_cell BK5.out 4).trans rfl; have HBW := Lib.hid (((((HB5.out.setCell (p := ⟨g5, 0, none⟩) (Nat.le_of_eq hg5.symm) (.int .i64 x.f4[i].f0)).setCell (p := ⟨g5, 1, none⟩) (Nat.le_of_eq hg5.symm) (.int .i64 x.f4[i].f1)).setCell (p := ⟨g5, 2, none⟩) (Nat.le_of_eq hg5.symm) (.string x.f4[i].f2)).setCell (p := ⟨g5, 3, none⟩) (Nat.le_of_eq hg5.symm) (.slice A3' x.f4[i].f3.length c3')).setCell (p := ⟨g5, 4, none⟩) (Nat.le_of_eq hg5.symm) (.slice A4' x.f4[i].f4.length c4')); clear hg5 bk hb)
        | (go_at_call 54; refine (IH.out x.f4[i] (List.getElem_mem hlt) _ _ _ _ _ (Kd.C_below G3'.out HBW.out) l3' (Kd.C_below G4'.out HBW.out) l4').mono ?_; rintro e w6 ⟨v3, v4, gss, rfl, ht, hg2, hb2⟩; obtain ⟨D3, e3, rfl, m3', n3⟩ := SRow_C ht.1; obtain ⟨D4, e4, rfl, m4', n4⟩ := ORow_C ht.2.1; have HT6 := Lib.hid ht; have HG6 := Lib.hid hg2; have HB6 := Lib.hid hb2; have HW6 := Lib.hid (HBW.out.trans (hb2.mono HBW.out.size)); have HL6 := Lib.hid (HBr.out.trans (HW6.out.mono HBr.out.size)); clear ht hg2 hb2 n3 n4)
        | ((with_reducible refine gate_builtin (b := .append) (xs := #[.tmp 18, .tmp 21]) rfl ?_); at_builtin; refine print_append_cells (w0 := w) (W := w6) w.heap.size rfl (.tmp 18) (.tmp 21) 31 33 (.agg #[(.int .i64 0), (.int .i64 0), (.string ⟨#[]⟩), (.slice none 0 0), (.slice none 0 0)]) 5 80 rfl Try.underlying31 info33 rfl (by decide) (by decide) u3 i inr [.int .i64 x.f4[i].f0, .int .i64 x.f4[i].f1, .string x.f4[i].f2, .slice D3 x.f4[i].f3.length e3, .slice D4 x.f4[i].f4.length e4] rfl rfl rfl (by intro u hu; simp at hu; rcases hu with rfl | rfl | rfl | rfl | rfl <;> rfl) (own_below HRr.out HW6.out) HL6.out HL6.out.size (by omega) ?_; intro u7 w7 hown hbl hgr hat; have HO7 := Lib.hid hown; have HL7 := Lib.hid hbl; have HGR7 := Lib.hid hgr; have HAT7 := Lib.hid hat; clear hown hbl hgr hat)
        )
      have hfp6 : ∀ k ∈ topFp (.slice D3 x.f4[i].f3.length e3) (.slice D4 x.f4[i].f4.length e4) gss, wr.heap.size ≤ k ∧ k < w6.heap.size := fun k hk => ⟨Nat.le_trans HBW.out.size (HG6.out k hk), Top_lt HT6.out k hk⟩
      have hown : ∀ k ∈ (Value.slice B3 x.f3.length d3).ownBlock.toList ++ (u3.ownBlock.toList ++ fs.flatten), k < wr.heap.size := by
        intro k hk
        simp only [List.mem_append, mem_own] at hk
        rcases hk with hk | hk | hk
        · exact (HSr.out.lt k hk).2
        · exact (HRr.out.lt k hk).2
        · obtain ⟨f, hf, hkf⟩ := List.mem_flatten.1 hk
          obtain ⟨j, hj, rfl⟩ := List.getElem_of_mem hf
          have hj2 : j < x.f4.length := by have := HFl.out; omega
          exact OT_lt _ _ _ (HT.out j hj2 _ (List.getElem?_eq_getElem hj)) k hkf
      have hat : u7.ownBlock.toList = u3.ownBlock.toList ∨ ∃ q, u7.ownBlock.toList = [q] ∧ w6.heap.size ≤ q := by
        rcases HAT7.out with e | ⟨q, e, hq⟩
        · exact .inl (by rw [e])
        · exact .inr ⟨q, by rw [e]; rfl, hq⟩
      have hcg : Chg (fun k => u3.ownBlock = some k) wr w7 := (Chg.of_same HW6.out).trans (Chg.grown HGR7.out (fun k e => e))
      have hs6 := HW6.out.size
      have hsr := HBr.out.size
      have hu3 : ∀ k, u3.ownBlock = some k → wb.heap.size ≤ k := fun k hk => HG.out k (by simp [hk])
      have hinr : inr.length = i * 5 := HRr.out.1
      have HFP := Lib.hid hfp6
      have HOWN := Lib.hid hown
      have HATT := Lib.hid hat
      have HCG := Lib.hid hcg
      have HU3 := Lib.hid hu3
      clear hfp6 hown hat hcg hu3
      go_roundg k1
      case rel =>
        refine ⟨i + 1, inr ++ _, fs ++ [topFp (.slice D3 x.f4[i].f3.length e3) (.slice D4 x.f4[i].f4.length e4) gss], by go_num, by omega, by omega, ⟨HO7.out⟩, ⟨by rw [List.length_append, HFl.out]; rfl⟩, ⟨fun j hj f hf => ?_⟩, ⟨?_⟩, ⟨fun k hk => ?_⟩, ⟨?_⟩, ⟨?_⟩, ⟨?_⟩, ⟨HL7.out⟩, ⟨by have := HCG.out.size; have := HWB.out; omega⟩⟩
        · rcases Nat.lt_or_ge j i with hji | hji
          · rw [List.getElem?_append_left (by rw [HFl.out]; exact hji)] at hf
            have e1 : ((inr ++ [Value.int .i64 x.f4[i].f0, .int .i64 x.f4[i].f1, .string x.f4[i].f2, .slice D3 x.f4[i].f3.length e3, .slice D4 x.f4[i].f4.length e4]).drop (j * 5)).take 5 = (inr.drop (j * 5)).take 5 := by
              rw [List.drop_append_of_le_length (by omega), List.take_append_of_le_length (by rw [List.length_drop]; omega)]
            rw [e1]
            refine OT_chg HCG.out _ _ _ (HT.out j hj f hf) (fun k hk e => ?_)
            have hn2 := (List.nodup_append.1 (List.nodup_append.1 HN.out).2.1).2.2
            exact hn2 k (by simp [e]) k (mem_flat hf hk) rfl
          · have hjl := (List.getElem?_eq_some_iff.1 hf).1
            rw [List.length_append, HFl.out, List.length_singleton] at hjl
            obtain rfl : j = i := by omega
            rw [List.getElem?_append_right (by rw [HFl.out]; exact Nat.le_refl _), HFl.out, Nat.sub_self] at hf
            obtain rfl := Option.some.inj hf
            have e1 : ((inr ++ [Value.int .i64 x.f4[j].f0, .int .i64 x.f4[j].f1, .string x.f4[j].f2, .slice D3 x.f4[j].f3.length e3, .slice D4 x.f4[j].f4.length e4]).drop (j * 5)).take 5 = [Value.int .i64 x.f4[j].f0, .int .i64 x.f4[j].f1, .string x.f4[j].f2, .slice D3 x.f4[j].f3.length e3, .slice D4 x.f4[j].f4.length e4] := by
              rw [← hinr, List.drop_left]
              rfl
            rw [e1]
            have htop := Top_chg (S := fun k => u3.ownBlock = some k) HT6.out (Chg.grown HGR7.out (fun k e => e)) (fun k hk e => by have := (HFP.out k hk).1; have := (HRr.out.lt k e).2; omega)
            rw [OT_iff]
            exact ⟨_, _, gss, rfl, htop.1, htop.2.1, rfl⟩
        · rw [List.flatten_append, List.flatten_singleton]
          exact app_fp HN.out HT6.out.2.2 HOWN.out HFP.out HATT.out hs6
        · rw [List.flatten_append, List.flatten_singleton] at hk
          simp only [List.mem_append] at hk
          have hwb := HWB.out
          rcases hk with hk | hk | hk | hk
          · exact HG.out k (by simp only [List.mem_append]; exact .inl hk)
          · rcases HATT.out with e | ⟨q, e, hq⟩
            · exact HG.out k (by simp only [List.mem_append]; rw [← e]; exact .inr (.inl hk))
            · rw [e] at hk
              obtain rfl : k = q := by simpa using hk
              omega
          · exact HG.out k (by simp only [List.mem_append]; exact .inr (.inr hk))
          · have := (HFP.out k hk).1
            omega
        · exact own_chg HSr.out HCG.out (fun k hk e => (List.nodup_append.1 HN.out).2.2 k (by simp [hk]) k (by simp [e]) rfl)
        · refine (HCG.out.block gb (blk_lt BKr.out) (fun e => ?_)).trans BKr.out
          have := HU3.out gb e
          omega
        · refine (HCG.out.block gr (blk_lt RSr.out) (fun e => ?_)).trans RSr.out
          have := HU3.out gr e
          omega
      case measure => omega
    · obtain rfl : i = x.f4.length := by omega
      have hu4 : ∃ B4 d4, u3 = .slice B4 x.f4.length d4 := by
        rcases HRr.out.2 with ⟨rfl, h0⟩ | ⟨g, cap, cur, rfl, _⟩
        · exact ⟨none, 0, by rw [h0]⟩
        · exact ⟨_, _, rfl⟩
      have y0 : wr.cell? ⟨gb, 0, none⟩ = some (.int .i64 x.f0) := (blk_cell BKr.out 0).trans rfl
      have y1 : wr.cell? ⟨gb, 1, none⟩ = some (.int .i64 x.f1) := (blk_cell BKr.out 1).trans rfl
      have y2 : wr.cell? ⟨gb, 2, none⟩ = some (.string x.f2) := (blk_cell BKr.out 2).trans rfl
      have y3 : wr.cell? ⟨gb, 3, none⟩ = some (.slice B3 x.f3.length d3) := (blk_cell BKr.out 3).trans rfl
      have y4 : wr.cell? ⟨gb, 4, none⟩ = some (.slice A4 x.f4.length c4) := (blk_cell BKr.out 4).trans rfl
      have q4 := blk_frozen BKr.out 4
      have r0 : wr.cell? ⟨gr, 0, none⟩ = some (.int .i64 0) := (blk_cell RSr.out 0).trans rfl
      have r1 : wr.cell? ⟨gr, 1, none⟩ = some (.int .i64 0) := (blk_cell RSr.out 1).trans rfl
      have r2 : wr.cell? ⟨gr, 2, none⟩ = some (.string ⟨#[]⟩) := (blk_cell RSr.out 2).trans rfl
      have r3 : wr.cell? ⟨gr, 3, none⟩ = some (.slice none 0 0) := (blk_cell RSr.out 3).trans rfl
      have r4 : wr.cell? ⟨gr, 4, none⟩ = some (.slice none 0 0) := (blk_cell RSr.out 4).trans rfl
      have p0 := blk_frozen RSr.out 0
      have p1 := blk_frozen RSr.out 1
      have p2 := blk_frozen RSr.out 2
      have p3 := blk_frozen RSr.out 3
      have p4 := blk_frozen RSr.out 4
      have hne2 : gr ≠ gb := fun e => hne e.symm
      obtain ⟨B4, d4, rfl⟩ := hu4
      go_wp2
      have hs1 : ∀ k ∈ topFp (.slice B3 x.f3.length d3) (.slice B4 x.f4.length d4) fs, wb.heap.size ≤ k := fun k hk => HG.out k hk
      have htop : Top wr (.slice B3 x.f3.length d3) (.slice B4 x.f4.length d4) x fs := ⟨HSr.out, ⟨inr, own_weaken HRr.out (Nat.zero_le _), HFl.out, fun j hj f hf => HT.out j hj f hf⟩, HN.out⟩
      have hS1 : gb < wb.heap.size := hgb3
      have hS2 : gr < wb.heap.size := hgr2
      have hwg : w.heap.size ≤ gb := by rw [HGB.out]; exact Nat.le_refl _
      exact bodyPost_ret (v := .agg #[.int .i64 x.f0, .int .i64 x.f1, .string x.f2, .slice B3 x.f3.length d3, .slice B4 x.f4.length d4]) (by simp [results, Try.results54, go_sem, y0, y1, y2, y3, y4, q4, r0, r1, r2, r3, r4, p0, p1, p2, p3, p4, hne, hne2]) rfl
        ⟨_, _, fs, rfl, Top_chg (S := fun k => k < wb.heap.size) htop ((((((Chg.set wr ⟨gb, 4, none⟩ _ hS1).trans (Chg.set _ ⟨gr, 0, none⟩ _ hS2)).trans (Chg.set _ ⟨gr, 1, none⟩ _ hS2)).trans (Chg.set _ ⟨gr, 2, none⟩ _ hS2)).trans (Chg.set _ ⟨gr, 3, none⟩ _ hS2)).trans (Chg.set _ ⟨gr, 4, none⟩ _ hS2)) (fun k hk e => by have := hs1 k hk; omega), fun k hk => by have := hs1 k hk; omega, (((((HBr.out.setCell (p := ⟨gb, 4, none⟩) hwg _).setCell (p := ⟨gr, 0, none⟩) hgw _).setCell (p := ⟨gr, 1, none⟩) hgw _).setCell (p := ⟨gr, 2, none⟩) hgw _).setCell (p := ⟨gr, 3, none⟩) hgw _).setCell (p := ⟨gr, 4, none⟩) hgw _⟩
/-- Trees that are not too great are copied. -/
theorem copy_all (x : S33) : cntTop x ≤ 1099511627776 → ToCopy x := by
  refine tree_ind (P := fun x => cntTop x ≤ 1099511627776 → ToCopy x) (fun x ih hc => copy_of x hc (fun y hy => ih y hy ?_)) x
  have h1 := mem_le_sum cntK x.f4 y hy
  have h2 := cntK_eq y
  unfold cntTop at hc ⊢
  omega
end Go.Proofs.Ytdlhidjphaaklaa.H
