/- Marks: what is written into every text, number and flag that a row of trees owns; nothing else is written. -/
import Derived.Test.YtdlhidjphaaklaaAid
import Derived.Test.YtdlhidjphaaklaaOwn
import Derived.Test.YtdlhidjphaaklaaP_laws_eqNote
namespace Go.Proofs.Ytdlhidjphaaklaa.H
open Go.RowKit Go.Proofs.Ytdlhidjphaaklaa.P Go.Proofs.YtdlhidjphaaklaaW.PrintWords Go.Proofs.Ytdlhidjphaaklaa.M
set_option linter.unusedVariables false
set_option linter.unusedSimpArgs false

theorem markText_loop : ∀ (d n : Nat) (out : ByteArray), n < 10 ^ d → n ≤ 4611686018427387904 → out.size + d + 1 ≤ 9223372036854775807 → ∃ k s, laws_markText.l0 k (n : Int) out = some s
  | 0, n, out, hn, _, hs => by
    have : n = 0 := by simpa using hn
    subst this
    exact ⟨1, _, by simp only [laws_markText.l0]; rw [if_neg (by omega), if_pos (by omega)]⟩
  | d + 1, n, out, hn, hm, hs => by
    by_cases h : n = 0
    · subst h
      exact ⟨1, _, by simp only [laws_markText.l0]; rw [if_neg (by omega), if_pos (by omega)]⟩
    · have h10 : n / 10 < 10 ^ d := by rw [Nat.div_lt_iff_lt_mul (by omega)]; rw [Nat.pow_succ] at hn; exact hn
      have hsz : (strOfNums ([(wrap64 (48 + (Int.tmod (n : Int) 10))) % 256] : List Int)).size = 1 := rfl
      obtain ⟨k, s, hk⟩ := markText_loop d (n / 10) (strOfNums ([(wrap64 (48 + (Int.tmod (n : Int) 10))) % 256] : List Int) ++ out) h10 (by omega) (by rw [ByteArray.size_append', hsz]; omega)
      refine ⟨k + 1, s, ?_⟩
      have ht : wrap64 (Int.tdiv (n : Int) 10) = ((n / 10 : Nat) : Int) := by
        rw [show Int.tdiv (n : Int) 10 = ((n / 10 : Nat) : Int) from by rw [show (10 : Int) = ((10 : Nat) : Int) from rfl, ← Int.ofNat_tdiv], w64 (by omega) (by omega)]
      simp only [laws_markText.l0]
      rw [if_pos (by omega), Option.bind_some, if_pos (by rw [hsz]; omega), ht]
      exact hk
theorem markText_ex (n : Int) (h : n ≤ 4611686018427387904) : ∃ s, ∃ k, laws_markText.f k n = some s := by
  unfold laws_markText.f
  by_cases h0 : n ≤ 0
  · exact ⟨_, 0, by rw [if_pos h0]⟩
  · obtain ⟨m, rfl⟩ : ∃ m : Nat, n = m := ⟨n.toNat, by omega⟩
    obtain ⟨k, s, hk⟩ := markText_loop 19 m ⟨#[]⟩ (by omega) (by omega) (by show 0 + 19 + 1 ≤ _; omega)
    exact ⟨s, k, by rw [if_neg h0]; exact hk⟩
/-- The text of a mark. -/
noncomputable def mt (n : Int) : ByteArray := @dite _ (∃ s, ∃ k, laws_markText.f k n = some s) (Classical.propDecidable _) (fun h => h.choose) (fun _ => ⟨#[]⟩)
theorem mt_is {n : Int} (h : n ≤ 4611686018427387904) : ∃ k, laws_markText.f k n = some (mt n) := by
  have e := markText_ex n h
  unfold mt
  rw [dif_pos e]
  exact e.choose_spec
theorem mt_calls (n : Int) (h : n ≤ 4611686018427387904) (w : World) : Calls Try.prog 43 #[.int .i64 n] w fun e w' => e = .returned (.string (mt n)) ∧ Below w.heap.size w w' := by
  obtain ⟨k, hk⟩ := mt_is h
  exact laws_markText.calls k n _ w hk
/-- So many marks, one behind the other. -/
noncomputable def mkS (n : Nat) (k : Int) : List ByteArray := (List.range n).map fun i => mt (k + (i : Nat))
theorem mkS_len (n : Nat) (k : Int) : (mkS n k).length = n := by simp [mkS]
theorem mkS_succ (n : Nat) (k : Int) : mkS (n + 1) k = mkS n k ++ [mt (k + n)] := by simp [mkS, List.range_succ]
/-- A store into a row's own cells. -/
theorem own_set {w : World} {b e s n g cap : Nat} {xs : List Value} (h : w.ownsRow b e s (.slice (some ⟨g, 0, none⟩) n cap) n xs) (j : Nat) (u : Value) (hj : j < xs.length) :
    (w.setCell ⟨g, j, none⟩ u).ownsRow b e s (.slice (some ⟨g, 0, none⟩) n cap) n (xs.set j u) := by
  obtain ⟨hl, h2⟩ := h
  rcases h2 with ⟨h0, _⟩ | ⟨g', cap', cur, hv, hb, hg, hc, hm, hsz, ht⟩
  · cases h0
  · injection hv with h1 h2 h3
    injection h1 with h1
    injection h1 with h1
    subst h1; subst h3
    refine ⟨by rw [List.length_set, hl], .inr ⟨g, cap, cur.setIfInBounds j u, rfl, hb, ?_, hc, hm, by rw [Array.size_setIfInBounds, hsz], ?_⟩⟩
    · simp only [World.setCell, Array.getElem?_modify, if_true, hg, Option.map_some]
      rfl
    · rw [Array.toList_setIfInBounds, List.take_set, ht]
theorem own_cell {w : World} {b e s n g cap : Nat} {xs : List Value} (h : w.ownsRow b e s (.slice (some ⟨g, 0, none⟩) n cap) n xs) {j : Nat} {u : Value} (hj : xs[j]? = some u) : w.cell? ⟨g, j, none⟩ = some u := by
  have := h.cells (g := g) rfl j u hj
  rw [Addr.add_lit, Nat.zero_add] at this
  exact this
theorem own_free {w : World} {b e s n g cap : Nat} {xs : List Value} (h : w.ownsRow b e s (.slice (some ⟨g, 0, none⟩) n cap) n xs) (j : Nat) : w.frozen? ⟨g, j, none⟩ = false := by
  obtain ⟨hl, h2⟩ := h
  rcases h2 with ⟨h0, _⟩ | ⟨g', cap', cur, hv, hb, hg, _⟩
  · cases h0
  · injection hv with h1 h2 h3
    injection h1 with h1
    injection h1 with h1
    subst h1
    simp [World.frozen?, hg]
theorem mark_step (i : Nat) (k : Int) (xs : List ByteArray) (hi : i < xs.length) : ((mkS i k ++ xs.drop i).map Value.string).set i (.string (mt (k + (i : Int)))) = (mkS (i + 1) k ++ xs.drop (i + 1)).map Value.string := by
  rw [mkS_succ, List.drop_eq_getElem_cons hi]
  rw [List.map_append, List.set_append_right _ _ (by rw [List.length_map, mkS_len]; exact Nat.le_refl _)]
  rw [List.length_map, mkS_len, Nat.sub_self]
  simp only [List.map_cons, List.set_cons_zero, List.map_append, List.append_assoc, List.map_nil, List.singleton_append, List.cons_append, List.nil_append]
theorem own_below {w w1 : World} {b e s n : Nat} {v : Value} {xs : List Value} (h : w.ownsRow b e s v n xs) (hb : Below w.heap.size w w1) : w1.ownsRow b e s v n xs := own_chg h (Chg.of_same (S := fun _ => False) hb) (fun _ _ e => e)
/-- What a store into a row's own cell asks. -/
theorem own_at {w : World} {b e s n g cap : Nat} {xs : List Value} (h : w.ownsRow b e s (.slice (some ⟨g, 0, none⟩) n cap) n xs) (j : Nat) (hj : j < xs.length) : ∃ u, w.cell? ⟨g, j, none⟩ = some u ∧ w.frozen? ⟨g, j, none⟩ = false :=
  ⟨_, own_cell h (List.getElem?_eq_getElem hj), own_free h j⟩
set_option maxHeartbeats 4000000 in
set_option maxRecDepth 100000 in
theorem markS_calls (xs : List ByteArray) (v : Value) (k0 : Int) (w : World) (h : SRow w v xs) (h0 : 0 ≤ k0) (hb : k0 + xs.length ≤ 4611686018427387904) :
    Calls Try.prog 41 #[v, .int .i64 k0] w fun e w' => e = .returned (.int .i64 (k0 + xs.length)) ∧ SRow w' v (mkS xs.length k0) ∧ Chg (fun k => v.ownBlock = some k) w w' := by
  have h' := h
  obtain ⟨hl, h2⟩ := h
  rcases h2 with ⟨rfl, hn⟩ | ⟨g, cap, cur, rfl, _, hg, hc, hm, hsz, ht⟩
  · have hx : xs = [] := List.eq_nil_of_length_eq_zero hn
    subst hx
    clear hl hn h'
    go_enter Try.func41, Try.ntmps41
    go_wp2
    go_loopg [1, 5] 1 (fun kq v1 v5 w' => v1 = .int .i64 k0 ∧ v5 = .int .i64 0 ∧ w' = w)
    case atStart => exact ⟨rfl, rfl, rfl⟩
    case round =>
      obtain ⟨rfl, rfl, rfl⟩ := hrel
      go_wp2
      go_ret
      exact ⟨by simp, World.ownsRow_nil _ _ _ _, Chg.refl _ _⟩
  · have hm2 : xs.length ≤ 9223372036854775807 := by unfold maxLen at hm; omega
    have HO := Lib.hid h'
    clear hl hg hc hm hsz ht h' cur
    go_enter Try.func41, Try.ntmps41
    go_wp2
    go_loopg [1, 5] (xs.length + 1) (fun kq v1 v5 w' => ∃ i : Nat, v1 = .int .i64 (k0 + i) ∧ v5 = .int .i64 i ∧ i ≤ xs.length ∧ kq + i = xs.length + 1 ∧ Aside0 (w'.ownsRow 0 9 1 (.slice (some ⟨g, 0, none⟩) xs.length cap) xs.length ((mkS i k0 ++ xs.drop i).map Value.string)) ∧ Aside0 (Chg (fun k => (Value.slice (some ⟨g, 0, none⟩) xs.length cap).ownBlock = some k) w w'))
    case atStart => exact ⟨0, by simp, rfl, Nat.zero_le _, by omega, ⟨HO.out⟩, ⟨Chg.refl _ _⟩⟩
    case round =>
      obtain ⟨i, rfl, rfl, hi, hq, HR, HC⟩ := hrel
      obtain ⟨k1, rfl⟩ : ∃ k1, gk = k1 + 1 := ⟨gk - 1, by omega⟩
      by_cases hlt : i < xs.length
      · have hltb : decide (i < xs.length) = true := decide_eq_true hlt
        have hbi : k0 + (i : Int) ≤ 4611686018427387904 := by omega
        have h0i : 0 ≤ k0 + (i : Int) := by omega
        go_wp2_with (go_at_call 43; refine (mt_calls _ (by omega) _).mono ?_; rintro e w1 ⟨rfl, hb1⟩; have HB1 := Lib.hid hb1; clear hb1; have HR1 := Lib.hid (own_below HR.out HB1.out); obtain ⟨u, hcell, hfz⟩ := own_at HR1.out i (by rw [List.length_map, List.length_append, mkS_len, List.length_drop]; omega))
        have HX := Lib.hid (own_set HR1.out i (.string (mt (k0 + (i : Int)))) (by rw [List.length_map, List.length_append, mkS_len, List.length_drop]; omega))
        go_roundg k1
        case rel => exact ⟨i + 1, by go_num, by go_num, by omega, by omega, ⟨by rw [← mark_step i k0 xs hlt]; exact HX.out⟩, ⟨(HC.out.trans (Chg.of_same HB1.out)).trans (Chg.set _ _ _ rfl)⟩⟩
        case measure => omega
      · go_wp2
        go_ret
        obtain rfl : i = xs.length := by omega
        have HR2 := HR.out
        rw [List.drop_of_length_le (Nat.le_refl _), List.append_nil] at HR2
        exact ⟨rfl, by unfold SRow; rw [mkS_len]; exact HR2, HC.out⟩
/-- How many marks a tree among others takes. -/
def cntK : S33 → Nat
  | ⟨_, _, _, ks, kids⟩ => 3 + ks.length + (kids.attach.map fun x => cntK x.1).sum
termination_by x => SizeOf.sizeOf x
decreasing_by
  have := List.sizeOf_lt_of_mem x.2
  simp only [S33.mk.sizeOf_spec]
  omega
theorem cntK_eq (a : S33) : cntK a = 3 + a.f3.length + (a.f4.map cntK).sum := by
  obtain ⟨f0, f1, f2, f3, f4⟩ := a
  rw [cntK]
  congr 1
  simp
/-- Marked from k on. -/
def MkT : S33 → Int → Prop
  | ⟨a, b, s, ks, kids⟩, k => a = k ∧ b = k + 1 ∧ s = mt (k + 2) ∧ ks = mkS ks.length (k + 3) ∧ ∀ i (h : i < kids.length), MkT kids[i] (k + 3 + (ks.length : Nat) + (((kids.take i).map cntK).sum : Nat))
termination_by x => SizeOf.sizeOf x
decreasing_by
  have := List.sizeOf_lt_of_mem (List.getElem_mem h)
  simp only [S33.mk.sizeOf_spec]
  omega
def MkL (kids : List S33) (k : Int) : Prop := ∀ i (h : i < kids.length), MkT kids[i] (k + (((kids.take i).map cntK).sum : Nat))
theorem MkT_iff (x : S33) (k : Int) : MkT x k ↔ x.f0 = k ∧ x.f1 = k + 1 ∧ x.f2 = mt (k + 2) ∧ x.f3 = mkS x.f3.length (k + 3) ∧ MkL x.f4 (k + 3 + (x.f3.length : Nat)) := by
  obtain ⟨a, b, s, ks, kids⟩ := x
  rw [MkT]
  rfl
theorem cnt_mem {kids : List S33} {i : Nat} (h : i < kids.length) : ((kids.take i).map cntK).sum + cntK kids[i] ≤ (kids.map cntK).sum := by
  have e : kids = kids.take i ++ kids[i] :: kids.drop (i + 1) := by rw [← List.drop_eq_getElem_cons h, List.take_append_drop]
  conv => rhs; rw [e]
  rw [List.map_append, List.sum_append, List.map_cons, List.sum_cons]
  omega
theorem cnt_take_succ {kids : List S33} {i : Nat} (h : i < kids.length) : ((kids.take (i + 1)).map cntK).sum = ((kids.take i).map cntK).sum + cntK kids[i] := by
  rw [List.take_succ_eq_append_getElem h, List.map_append, List.sum_append]
  simp
/-- An element's cells. -/
theorem row_cells {inner : List Value} {n i : Nat} {c : List Value} (hl : inner.length = n * 5) (hi : i < n) (hc : (inner.drop (i * 5)).take 5 = c) (j : Nat) (hj : j < 5) : inner[i * 5 + j]? = c[j]? := by
  rw [← hc, List.getElem?_take, if_pos hj, List.getElem?_drop]
theorem row_set_same {inner : List Value} {n i : Nat} (hl : inner.length = n * 5) (hi : i < n) (u0 u1 u2 : Value) {a b s v3 v4 : Value} (hc : (inner.drop (i * 5)).take 5 = [a, b, s, v3, v4]) :
    ((((inner.set (i * 5) u0).set (i * 5 + 1) u1).set (i * 5 + 2) u2).drop (i * 5)).take 5 = [u0, u1, u2, v3, v4] := by
  have h5 : i * 5 + 5 ≤ n * 5 := by rw [← Nat.succ_mul]; exact Nat.mul_le_mul_right _ (by omega)
  apply List.ext_getElem?
  intro j
  rw [List.getElem?_take]
  by_cases hj : j < 5
  · rw [if_pos hj, List.getElem?_drop, List.getElem?_set, List.getElem?_set, List.getElem?_set, row_cells hl hi hc j hj]
    simp only [List.length_set]
    rcases j with _ | _ | _ | _ | _ | j
    · rw [if_neg (by omega), if_neg (by omega), if_pos (by omega), if_pos (by omega)]; rfl
    · rw [if_neg (by omega), if_pos (by omega), if_pos (by omega)]; rfl
    · rw [if_pos (by omega), if_pos (by omega)]; rfl
    · rw [if_neg (by omega), if_neg (by omega), if_neg (by omega)]; rfl
    · rw [if_neg (by omega), if_neg (by omega), if_neg (by omega)]; rfl
    · omega
  · rw [if_neg hj]
    symm
    exact List.getElem?_eq_none (by simp; omega)
theorem row_set_other {inner : List Value} {i j : Nat} (hne : i ≠ j) (u0 u1 u2 : Value) : ((((inner.set (i * 5) u0).set (i * 5 + 1) u1).set (i * 5 + 2) u2).drop (j * 5)).take 5 = (inner.drop (j * 5)).take 5 := by
  apply List.ext_getElem?
  intro k
  rw [List.getElem?_take, List.getElem?_take]
  by_cases hk : k < 5
  · rw [if_pos hk, if_pos hk, List.getElem?_drop, List.getElem?_drop, List.getElem?_set_ne (by omega), List.getElem?_set_ne (by omega), List.getElem?_set_ne (by omega)]
  · rw [if_neg hk, if_neg hk]
theorem set2_cell {inner : List Value} {n i : Nat} {c : List Value} (hl : inner.length = n * 5) (hi : i < n) (hc : (inner.drop (i * 5)).take 5 = c) (u0 u1 : Value) (j : Nat) (h2 : 2 ≤ j) (hj : j < 5) {v : Value} (hv : c[j]? = some v) : ((inner.set (i * 5) u0).set (i * 5 + 1) u1)[i * 5 + j]? = some v := by
  rw [List.getElem?_set_ne (by omega), List.getElem?_set_ne (by omega), row_cells hl hi hc j hj, hv]
theorem set3_cell {inner : List Value} {n i : Nat} {c : List Value} (hl : inner.length = n * 5) (hi : i < n) (hc : (inner.drop (i * 5)).take 5 = c) (u0 u1 u2 : Value) (j : Nat) (h2 : 3 ≤ j) (hj : j < 5) {v : Value} (hv : c[j]? = some v) : (((inner.set (i * 5) u0).set (i * 5 + 1) u1).set (i * 5 + 2) u2)[i * 5 + j]? = some v := by
  rw [List.getElem?_set_ne (by omega), set2_cell hl hi hc u0 u1 j (by omega) hj hv]
/-- One element has been marked: what the row is then. -/
theorem mark_close {g cap i : Nat} {kids kd : List S33} {inr : List Value} {fss gss : List (List Nat)} {k0 kx : Int} {wr w4 : World} {v3 v4 : Value} {kids' : List S33} (hi : i < kids.length) (hfl : fss.length = kids.length)
    (hnd : ((Value.slice (some ⟨g, 0, none⟩) kids.length cap).ownBlock.toList ++ fss.flatten).Nodup) (hkx : kx = k0 + (((kids.take i).map cntK).sum : Nat))
    (HM : kd.map cntK = kids.map cntK) (HK : ∀ j (hj : j < kd.length), j < i → MkT kd[j] (k0 + (((kids.take j).map cntK).sum : Nat))) (HE : ∀ j, i ≤ j → kd[j]? = kids[j]?)
    (HRl : inr.length = kids.length * 5) (ecs : (inr.drop (i * 5)).take 5 = [.int .i64 kids[i].f0, .int .i64 kids[i].f1, .string kids[i].f2, v3, v4])
    (HT : ∀ j (hj : j < kd.length) f, fss[j]? = some f → OT wr kd[j] ((inr.drop (j * 5)).take 5) f)
    (hf : fss[i]? = some (v3.ownBlock.toList ++ (v4.ownBlock.toList ++ gss.flatten)))
    (HC : Chg (fun k => k = g ∨ k ∈ v3.ownBlock.toList ++ (v4.ownBlock.toList ++ gss.flatten)) wr w4)
    (HR : w4.ownsRow 0 33 5 (.slice (some ⟨g, 0, none⟩) kids.length cap) kids.length (((inr.set (i * 5) (.int .i64 kx)).set (i * 5 + 1) (.int .i64 (kx + 1))).set (i * 5 + 2) (.string (mt (kx + 2)))))
    (hS : SRow w4 v3 (mkS kids[i].f3.length (kx + 3))) (hO : ORow w4 v4 kids' gss) (hcn : kids'.map cntK = kids[i].f4.map cntK) (hmk : MkL kids' (kx + 3 + (kids[i].f3.length : Nat))) :
    ∃ (kd2 : List S33) (inr2 : List Value), kd2.map cntK = kids.map cntK ∧ (∀ j (hj : j < kd2.length), j < i + 1 → MkT kd2[j] (k0 + (((kids.take j).map cntK).sum : Nat))) ∧ (∀ j, i + 1 ≤ j → kd2[j]? = kids[j]?) ∧
      w4.ownsRow 0 33 5 (.slice (some ⟨g, 0, none⟩) kids.length cap) kids.length inr2 ∧ (∀ j (hj : j < kd2.length) f, fss[j]? = some f → OT w4 kd2[j] ((inr2.drop (j * 5)).take 5) f) := by
  have hkl : kd.length = kids.length := by have := congrArg List.length HM; simpa using this
  have hnd2 := List.nodup_append.1 hnd
  have hx : MkT ⟨kx, kx + 1, mt (kx + 2), mkS kids[i].f3.length (kx + 3), kids'⟩ kx := by
    rw [MkT_iff]
    refine ⟨rfl, rfl, rfl, by simp only [mkS_len], ?_⟩
    simp only [mkS_len]
    exact hmk
  have hcx : cntK ⟨kx, kx + 1, mt (kx + 2), mkS kids[i].f3.length (kx + 3), kids'⟩ = cntK kids[i] := by
    rw [cntK_eq, cntK_eq]
    simp only [mkS_len, hcn]
  refine ⟨kd.set i ⟨kx, kx + 1, mt (kx + 2), mkS kids[i].f3.length (kx + 3), kids'⟩, _, ?_, fun j hj hji => ?_, fun j hj => ?_, HR, fun j hj f hfj => ?_⟩
  · rw [List.map_set, hcx, HM]
    apply List.ext_getElem?
    intro j
    rw [List.getElem?_set]
    by_cases e : i = j
    · subst e
      rw [if_pos rfl, if_pos (by rw [List.length_map]; exact hi), List.getElem?_map, List.getElem?_eq_getElem hi]
      rfl
    · rw [if_neg e]
  · by_cases e : i = j
    · subst e
      rw [List.getElem_set_self, ← hkx]
      exact hx
    · rw [List.getElem_set_ne e]
      exact HK j (by simpa using hj) (by omega)
  · rw [List.getElem?_set_ne (by omega)]
    exact HE j (by omega)
  · by_cases e : i = j
    · subst e
      rw [List.getElem_set_self]
      rw [hf] at hfj
      obtain rfl := Option.some.inj hfj
      rw [row_set_same HRl hi _ _ _ ecs, OT_iff]
      exact ⟨v3, v4, gss, rfl, hS, hO, rfl⟩
    · rw [List.getElem_set_ne e, row_set_other e]
      refine OT_chg HC _ _ _ (HT j (by simpa using hj) f hfj) (fun k hk hS2 => ?_)
      rcases hS2 with rfl | hk2
      · exact hnd2.2.2 k (by simp [Value.ownBlock]) k (mem_flat hfj hk) rfl
      · exact nd_flat2 hnd2.2.1 hf hfj e k hk2 hk
set_option maxHeartbeats 8000000 in
set_option maxRecDepth 100000 in
theorem markN_calls : ∀ (N : Nat) (kids : List S33) (v : Value) (fss : List (List Nat)) (k0 : Int) (w : World), (kids.map cntK).sum ≤ N → ORow w v kids fss → (v.ownBlock.toList ++ fss.flatten).Nodup → 0 ≤ k0 → k0 + ((kids.map cntK).sum : Nat) ≤ 4611686018427387904 →
    Calls Try.prog 42 #[v, .int .i64 k0] w fun e w' => ∃ kids' : List S33, e = .returned (.int .i64 (k0 + ((kids.map cntK).sum : Nat))) ∧ kids'.map cntK = kids.map cntK ∧ MkL kids' k0 ∧ ORow w' v kids' fss ∧ Chg (fun k => v.ownBlock = some k ∨ k ∈ fss.flatten) w w' := by
  intro N
  induction N using Nat.strongRecOn with
  | _ N ih =>
  intro kids v fss k0 w hN h hnd h0 hb
  have hu := Try.underlying33
  obtain ⟨inner, h1, h2, h3⟩ := h
  have h1' := h1
  obtain ⟨hl, hv⟩ := h1
  rcases hv with ⟨rfl, hn⟩ | ⟨g, cap, cur, rfl, _, hg, hc, hm, hsz, ht⟩
  · have hx : kids = [] := List.eq_nil_of_length_eq_zero hn
    subst hx
    clear hl hn h1' h3
    go_enter Try.func42, Try.ntmps42
    go_wp2
    go_loopg [1, 5] 1 (fun kq v1 v5 w' => v1 = .int .i64 k0 ∧ v5 = .int .i64 0 ∧ w' = w)
    case atStart => exact ⟨rfl, rfl, rfl⟩
    case round =>
      obtain ⟨rfl, rfl, rfl⟩ := hrel
      go_wp2
      go_ret
      exact ⟨[], by simp, rfl, fun i hi => absurd hi (Nat.not_lt_zero _), ⟨[], World.ownsRow_nil _ _ _ _, h2, fun i hi => absurd hi (Nat.not_lt_zero _)⟩, Chg.refl _ _⟩
  · have hm2 : kids.length ≤ 9223372036854775807 := by unfold maxLen at hm; omega
    have HO := Lib.hid h1'
    have H2 := Lib.hid h2
    have H3 := Lib.hid h3
    have HN := Lib.hid hnd
    have IH := Lib.hid ih
    clear hl hg hc hm hsz ht h1' cur h2 h3 hnd ih
    have HS0 : Aside0 (Chg (fun k => (Value.slice (some ⟨g, 0, none⟩) kids.length cap).ownBlock = some k ∨ k ∈ fss.flatten) w w) := ⟨Chg.refl _ _⟩
    go_enter Try.func42, Try.ntmps42
    go_wp2
    go_loopg [1, 5] (kids.length + 1) (fun kq v1 v5 w' => ∃ (i : Nat) (kd : List S33) (inr : List Value), v1 = .int .i64 (k0 + (((kids.take i).map cntK).sum : Nat)) ∧ v5 = .int .i64 i ∧ i ≤ kids.length ∧ kq + i = kids.length + 1 ∧ Aside0 (kd.map cntK = kids.map cntK) ∧ Aside0 (∀ j (hj : j < kd.length), j < i → MkT kd[j] (k0 + (((kids.take j).map cntK).sum : Nat))) ∧ Aside0 (∀ j, i ≤ j → kd[j]? = kids[j]?) ∧
      Aside0 (w'.ownsRow 0 33 5 (.slice (some ⟨g, 0, none⟩) kids.length cap) kids.length inr) ∧ Aside0 (∀ j (hj : j < kd.length) f, fss[j]? = some f → OT w' kd[j] ((inr.drop (j * 5)).take 5) f) ∧ Aside0 (Chg (fun k => (Value.slice (some ⟨g, 0, none⟩) kids.length cap).ownBlock = some k ∨ k ∈ fss.flatten) w w'))
    case atStart => exact ⟨0, kids, inner, by simp, rfl, Nat.zero_le _, by omega, ⟨rfl⟩, ⟨fun j _ hj => absurd hj (Nat.not_lt_zero _)⟩, ⟨fun _ _ => rfl⟩, ⟨HO.out⟩, ⟨H3.out⟩, HS0⟩
    case round =>
      obtain ⟨i, kd, inr, rfl, rfl, hi, hq, HM, HK, HE, HR, HT, HC⟩ := hrel
      obtain ⟨k1, rfl⟩ : ∃ k1, gk = k1 + 1 := ⟨gk - 1, by omega⟩
      by_cases hlt : i < kids.length
      · skip
        have hltb : decide (i < kids.length) = true := decide_eq_true hlt
        have hkl : kd.length = kids.length := by have := congrArg List.length HM.out; simpa using this
        have hik : i < kd.length := by omega
        have hif : i < fss.length := by rw [H2.out]; exact hlt
        have hcm := cnt_mem hlt
        have hts := cnt_take_succ hlt
        obtain ⟨kx, hkx⟩ : ∃ kx : Int, kx = k0 + (((kids.take i).map cntK).sum : Nat) := ⟨_, rfl⟩
        have hkx0 : 0 ≤ kx := by omega
        have hcx := cntK_eq kids[i]
        have hkx1 : kx + (cntK kids[i] : Nat) ≤ 4611686018427387904 := by omega
        have hkx2 : kx + 3 ≤ 4611686018427387904 := by omega
        have hkx3 : kx + 2 ≤ 4611686018427387904 := by omega
        have hkx4 : kx + 3 + (kids[i].f3.length : Nat) ≤ 4611686018427387904 := by omega
        have hkx5 : kx + 3 + (kids[i].f3.length : Nat) + ((kids[i].f4.map cntK).sum : Nat) ≤ 4611686018427387904 := by omega
        have hlt4 : (kids[i].f4.map cntK).sum < N := by omega
        have hnext : kx + 3 + (kids[i].f3.length : Nat) + ((kids[i].f4.map cntK).sum : Nat) = k0 + (((kids.take (i + 1)).map cntK).sum : Nat) := by omega
        have hfi : fss[i]? = some fss[i] := List.getElem?_eq_getElem hif
        have hki : kd[i] = kids[i] := by
          have := HE.out i (Nat.le_refl _)
          rw [List.getElem?_eq_getElem hik, List.getElem?_eq_getElem hlt] at this
          exact Option.some.inj this
        have hO := HT.out i hik fss[i] hfi
        rw [OT_iff, hki] at hO
        obtain ⟨v3, v4, gss, ecs, hS3, hR4, efp⟩ := hO
        rw [efp] at hfi
        have hnf := nd_flat (List.nodup_append.1 HN.out).2.1 hfi
        have hgf : ∀ k ∈ v3.ownBlock.toList ++ (v4.ownBlock.toList ++ gss.flatten), k ≠ g := fun k hk e => (List.nodup_append.1 HN.out).2.2 g (by simp [Value.ownBlock]) k (mem_flat hfi hk) e.symm
        have hn4 := (List.nodup_append.1 hnf).2.1
        have hn34 := (List.nodup_append.1 hnf).2.2
        obtain ⟨A3, c3, e3, l3, g3⟩ := SRow_C hS3
        obtain ⟨A4, c4, e4, l4, g4⟩ := ORow_C hR4
        subst e3
        subst e4
        have hrl := HR.out.1
        have y0 := own_cell HR.out (j := i * 5) ((row_cells hrl hlt ecs 0 (by omega)).trans rfl)
        have y1 := own_cell HR.out ((row_cells hrl hlt ecs 1 (by omega)).trans rfl)
        have z0 := own_free HR.out (i * 5)
        have z1 := own_free HR.out (i * 5 + 1)
        have hi5 : i * 5 + 5 ≤ inr.length := by rw [hrl, ← Nat.succ_mul]; exact Nat.mul_le_mul_right _ (by omega)
        rw [← hkx]
        have HKX := Lib.hid hkx
        have HHS3 := Lib.hid hS3
        have HHR4 := Lib.hid hR4
        have HEC := Lib.hid ecs
        have HFI := Lib.hid hfi
        have HGF := Lib.hid hgf
        have HN4 := Lib.hid hn4
        have HN34 := Lib.hid hn34
        have HNX := Lib.hid hnext
        have HRL := Lib.hid hrl
        have HI5 := Lib.hid hi5
        clear hkx hb hcm hts hcx hS3 hR4 ecs hfi hgf hnf hn4 hn34 hnext hrl efp hki g3 g4 l3 l4 hi5 hkl
        have HNE3 : Hid (∀ k, (Value.slice A3 kids[i].f3.length c3).ownBlock = some k → ¬ k = g) := fun k hk => HGF.out k (by simp [hk])
        have HNE4 : Hid (∀ k, (Value.slice A4 kids[i].f4.length c4).ownBlock = some k → ¬ k = g) := fun k hk => HGF.out k (by simp [hk])
        have HNEf : Hid (∀ k ∈ gss.flatten, ¬ k = g) := fun k hk => HGF.out k (by simp only [List.mem_append]; exact .inr (.inr hk))
        go_wp2_with (first
          | (go_at_call 43; refine (mt_calls _ (by omega) _).mono ?_; rintro e w1 ⟨rfl, hb1⟩; have HB1 := Lib.hid hb1; clear hb1; have HR1 := Lib.hid (own_below (own_set (own_set HR.out (i * 5) (.int .i64 kx) (by have := HI5.out; omega)) (i * 5 + 1) (.int .i64 (kx + 1)) (by have := HI5.out; rw [List.length_set]; omega)) HB1.out); obtain ⟨u2, hc2, hf2⟩ := own_at HR1.out (i * 5 + 2) (by have := HI5.out; rw [List.length_set, List.length_set]; omega); have y3 := own_cell HR1.out (set2_cell HRL.out hlt HEC.out _ _ 3 (by omega) (by omega) rfl); have HC1 := Lib.hid (((Chg.set (S := fun k => k = g) wr ⟨g, i * 5, none⟩ (.int .i64 kx) rfl).trans (Chg.set (S := fun k => k = g) _ ⟨g, i * 5 + 1, none⟩ (.int .i64 (kx + 1)) rfl)).trans (Chg.of_same HB1.out)))
          | (go_at_call 41; refine (markS_calls kids[i].f3 _ _ _ (own_chg HHS3.out (HC1.out.trans (Chg.set (S := fun k => k = g) _ _ _ rfl)) HNE3.out) (by omega) (by omega)).mono ?_; rintro e w3 ⟨rfl, hs3, hc3⟩; have HS3 := Lib.hid hs3; have HC3 := Lib.hid hc3; clear hs3 hc3; have HR3 := Lib.hid (own_chg (own_set HR1.out (i * 5 + 2) (.string (mt (kx + 1 + 1))) (by have := HI5.out; rw [List.length_set, List.length_set]; omega)) HC3.out (fun k hk hk2 => HNE3.out k hk2 (by simp [Value.ownBlock] at hk; exact hk.symm))); have y4 := own_cell HR3.out (set3_cell HRL.out hlt HEC.out _ _ _ 4 (by omega) (by omega) rfl))
          | (go_at_call 42; have HC13 := Lib.hid (((HC1.out.mono (S' := fun k => k = g ∨ (Value.slice A3 kids[i].f3.length c3).ownBlock = some k) (fun k _ e => .inl e)).trans (Chg.set _ ⟨g, i * 5 + 2, none⟩ (.string (mt (kx + 1 + 1))) (.inl rfl))).trans (HC3.out.mono (fun k _ e => .inr e))); refine (IH.out _ hlt4 kids[i].f4 _ gss _ _ (Nat.le_refl _) (ORow_chg HC13.out HHR4.out (fun k hk e => e.elim (HNE4.out k hk) (fun e2 => HN34.out k (by simp [e2]) k (by simp [hk]) rfl)) (fun k hk e => e.elim (HNEf.out k hk) (fun e2 => HN34.out k (by simp [e2]) k (by simp only [List.mem_append]; exact .inr hk) rfl))) HN4.out (by omega) (by omega)).mono ?_; rintro e w4 ⟨kids', rfl, hcn, hmk, ho4, hc4⟩; have HCN := Lib.hid hcn; have HMK := Lib.hid hmk; have HO4 := Lib.hid ho4; have HC4 := Lib.hid hc4; clear hcn hmk ho4 hc4))
        have HR4 := Lib.hid (own_chg HR3.out HC4.out (fun k hk e => by
          simp [Value.ownBlock] at hk
          subst hk
          exact e.elim (fun e => HNE4.out _ e rfl) (fun e => HNEf.out _ e rfl)))
        have HS4 := Lib.hid (own_chg (w1 := w4) HS3.out HC4.out (fun k hk e => HN34.out k (by simp [hk]) k (by simp only [List.mem_append, mem_own]; exact e) rfl))
        have HC14 := Lib.hid (((HC13.out.mono (S' := fun k => k = g ∨ k ∈ (Value.slice A3 kids[i].f3.length c3).ownBlock.toList ++ ((Value.slice A4 kids[i].f4.length c4).ownBlock.toList ++ gss.flatten)) (fun k _ e => e.elim .inl (fun e => .inr (by simp [e]))))).trans (HC4.out.mono (fun k _ e => .inr (by simp only [List.mem_append, mem_own]; exact .inr e))))
        have HCall := Lib.hid (HC.out.trans (HC14.out.mono (fun k _ e => e.elim (fun e => .inl (by simp [Value.ownBlock, e])) (fun e => .inr (mem_flat HFI.out e)))))
        obtain ⟨kd2, inr2, q1, q2, q3, q4, q5⟩ := mark_close hlt H2.out HN.out HKX.out HM.out HK.out HE.out HRL.out HEC.out HT.out HFI.out HC14.out (by have := HR4.out; rw [show kx + 1 + 1 = kx + 2 by omega] at this; exact this) (by have := HS4.out; rw [show kx + 1 + 1 + 1 = kx + 3 by omega] at this; exact this) HO4.out HCN.out (by have := HMK.out; rw [show kx + 1 + 1 + 1 = kx + 3 by omega] at this; exact this)
        have Q1 := Lib.hid q1
        have Q2 := Lib.hid q2
        have Q3 := Lib.hid q3
        have Q4 := Lib.hid q4
        have Q5 := Lib.hid q5
        clear q1 q2 q3 q4 q5
        go_roundg k1
        case rel => exact ⟨i + 1, kd2, inr2, by rw [← HNX.out, show kx + 1 + 1 + 1 = kx + 3 by omega], by go_num, by omega, by omega, ⟨Q1.out⟩, ⟨Q2.out⟩, ⟨Q3.out⟩, ⟨Q4.out⟩, ⟨Q5.out⟩, ⟨HCall.out⟩⟩
        case measure => omega
      · go_wp2
        go_ret
        obtain rfl : i = kids.length := by omega
        have hkl : kd.length = kids.length := by have := congrArg List.length HM.out; simpa using this
        refine ⟨kd, by rw [List.take_of_length_le (by simp)]; rfl, HM.out, fun j hj => ?_, ⟨inr, by rw [hkl]; exact HR.out, by rw [hkl]; exact H2.out, HT.out⟩, HC.out⟩
        rw [List.map_take, HM.out, ← List.map_take]
        exact HK.out j hj (by omega)
theorem chg_cell {S : Nat → Prop} {w w1 : World} {a : Addr} {v : Value} (hc : Chg S w w1) (h : w.cell? a = some v) (hs : ¬ S a.block) : w1.cell? a = some v := (World.cell?_of_block (hc.block _ (World.block_lt_of_cell? w a h) hs)).trans h
theorem chg_free {S : Nat → Prop} {w w1 : World} {a : Addr} (hc : Chg S w w1) (hl : a.block < w.heap.size) (hs : ¬ S a.block) : w1.frozen? a = w.frozen? a := World.frozen?_of_block (hc.block _ hl hs)
/-- A tree whose Keys and Kids own their memory, by itself: what markNode is given. -/
def Top (w : World) (v3 v4 : Value) (x : S33) (fss : List (List Nat)) : Prop := SRow w v3 x.f3 ∧ ORow w v4 x.f4 fss ∧ (v3.ownBlock.toList ++ (v4.ownBlock.toList ++ fss.flatten)).Nodup
def topFp (v3 v4 : Value) (fss : List (List Nat)) : List Nat := v3.ownBlock.toList ++ (v4.ownBlock.toList ++ fss.flatten)
theorem Top_chg {S : Nat → Prop} {w w1 : World} {v3 v4 : Value} {x : S33} {fss : List (List Nat)} (h : Top w v3 v4 x fss) (hc : Chg S w w1) (hs : ∀ k ∈ topFp v3 v4 fss, ¬ S k) : Top w1 v3 v4 x fss :=
  ⟨own_chg h.1 hc (fun k hk => hs k (by simp [topFp, hk])), ORow_chg hc h.2.1 (fun k hk => hs k (by simp [topFp, hk])) (fun k hk => hs k (by simp only [topFp, List.mem_append]; exact .inr (.inr hk))), h.2.2⟩
/-- How many marks a tree by itself takes. -/
def cntTop (x : S33) : Nat := x.f3.length + (x.f4.map cntK).sum
/-- A tree by itself, marked from k on. -/
def MkTop (x : S33) (k : Int) : Prop := x.f3 = mkS x.f3.length k ∧ MkL x.f4 (k + (x.f3.length : Nat))
set_option maxHeartbeats 4000000 in
set_option maxRecDepth 100000 in
theorem mark_calls (x : S33) (v3 v4 : Value) (fss : List (List Nat)) (k0 : Int) (w : World) (h : Top w v3 v4 x fss) (h0 : 0 ≤ k0) (hb : k0 + (cntTop x : Nat) ≤ 4611686018427387904) :
    Calls Try.prog 14 #[.agg #[.int .i64 x.f0, .int .i64 x.f1, .string x.f2, v3, v4], .int .i64 k0] w fun e w' => ∃ x' : S33, e = .returned (.int .i64 (k0 + (cntTop x : Nat))) ∧ x'.f0 = x.f0 ∧ x'.f1 = x.f1 ∧ x'.f2 = x.f2 ∧ cntTop x' = cntTop x ∧ MkTop x' k0 ∧ Top w' v3 v4 x' fss ∧ Chg (fun k => k ∈ topFp v3 v4 fss ∨ w.heap.size ≤ k) w w' := by
  have hu := Try.underlying33
  obtain ⟨hs, ho, hn⟩ := h
  obtain ⟨A3, c3, rfl, _, _⟩ := SRow_C hs
  obtain ⟨A4, c4, rfl, _, _⟩ := ORow_C ho
  have HS := Lib.hid hs
  have HO := Lib.hid ho
  have HN := Lib.hid hn
  have HN4 := Lib.hid (List.nodup_append.1 hn).2.1
  have HN34 := Lib.hid (List.nodup_append.1 hn).2.2
  have hb1 : k0 + (x.f3.length : Nat) ≤ 4611686018427387904 := by unfold cntTop at hb; omega
  have hb2 : k0 + (x.f3.length : Nat) + ((x.f4.map cntK).sum : Nat) ≤ 4611686018427387904 := by unfold cntTop at hb; omega
  have h1 : 0 ≤ k0 + (x.f3.length : Nat) := by omega
  clear hs ho hn hb
  have HB := Lib.hid (Chg.of_same (S := fun k => (Value.slice A3 x.f3.length c3).ownBlock = some k) (below_alloc (Below.refl w.heap.size w) (.cells #[.int .i64 x.f0, .int .i64 x.f1, .string x.f2, .slice A3 x.f3.length c3, .slice A4 x.f4.length c4] 33)))
  go_enter Try.func14, Try.ntmps14
  go_wp2_with (first
    | (go_at_call 41; refine (markS_calls x.f3 _ _ _ (own_chg HS.out (Chg.of_same (S := fun _ => False) (below_alloc (Below.refl _ _) _)) (fun _ _ e => e)) (by omega) (by omega)).mono ?_; rintro e w1 ⟨rfl, hs1, hc1⟩; have y4 := chg_cell hc1 (a := ⟨w.heap.size, 4, none⟩) (v := .slice A4 x.f4.length c4) (by go_simp) (fun e => absurd (HS.out.lt _ e).2 (Nat.lt_irrefl _)); have HS1 := Lib.hid hs1; have HC1 := Lib.hid (HB.out.trans hc1); clear hs1 hc1)
    | (go_at_call 42; refine (markN_calls _ x.f4 _ fss _ _ (Nat.le_refl _) (ORow_chg HC1.out HO.out (fun k hk e => HN34.out k (by simp [e]) k (by simp [hk]) rfl) (fun k hk e => HN34.out k (by simp [e]) k (by simp only [List.mem_append]; exact .inr hk) rfl)) HN4.out (by omega) (by omega)).mono ?_; rintro e w2 ⟨kids', rfl, hcn, hmk, ho2, hc2⟩; have HCN := Lib.hid hcn; have HMK := Lib.hid hmk; have HO2 := Lib.hid ho2; have HC2 := Lib.hid hc2; clear hcn hmk ho2 hc2))
  go_ret
  refine ⟨⟨x.f0, x.f1, x.f2, mkS x.f3.length k0, kids'⟩, ?_, rfl, rfl, rfl, ?_, ⟨?_, ?_⟩, ⟨?_, ?_, HN.out⟩, ?_⟩
  · unfold cntTop
    rw [show k0 + ((x.f3.length + (x.f4.map cntK).sum : Nat) : Int) = k0 + (x.f3.length : Nat) + ((x.f4.map cntK).sum : Nat) by omega]
    rfl
  · unfold cntTop
    simp only [mkS_len, HCN.out]
  · simp only [mkS_len]
  · simp only [mkS_len]
    exact HMK.out
  · have := own_chg HS1.out HC2.out (fun k hk e => HN34.out k (by simp [hk]) k (by simp only [List.mem_append, mem_own]; exact e) rfl)
    exact this
  · exact HO2.out
  · refine (HC1.out.mono (fun k _ e => .inl (by simp [topFp, e]))).trans (HC2.out.mono (fun k _ e => .inl ?_))
    simp only [topFp, List.mem_append, mem_own]
    exact .inr e
theorem Top_lt {w : World} {v3 v4 : Value} {x : S33} {fss : List (List Nat)} (h : Top w v3 v4 x fss) : ∀ k ∈ topFp v3 v4 fss, k < w.heap.size := fun k hk =>
  OT_lt x _ (topFp v3 v4 fss) ((OT_iff _ _ _ _).2 ⟨v3, v4, fss, rfl, h.1, h.2.1, rfl⟩) k hk
theorem Top_below {w w1 : World} {v3 v4 : Value} {x : S33} {fss : List (List Nat)} (h : Top w v3 v4 x fss) (hb : Below w.heap.size w w1) : Top w1 v3 v4 x fss := Top_chg h (Chg.of_same (S := fun _ => False) hb) (fun _ _ e => e)
end Go.Proofs.Ytdlhidjphaaklaa.H
