/- Rows of notes of one's own: told apart by their block, marked and held. -/
import Derived.Test.YtdlhidjphaaklaaAid
import Derived.Test.YtdlhidjphaaklaaBase
import Derived.Test.YtdlhidjphaaklaaCopy
import Derived.Test.YtdlhidjphaaklaaEv
import Derived.Test.YtdlhidjphaaklaaLists
import Derived.Test.YtdlhidjphaaklaaMark
import Derived.Test.YtdlhidjphaaklaaMt
import Derived.Test.YtdlhidjphaaklaaOwn
import Derived.Test.YtdlhidjphaaklaaP_laws_eqNote
namespace Go.Proofs.Ytdlhidjphaaklaa.H
open Go.RowKit Go.Proofs.Ytdlhidjphaaklaa.P Go.Proofs.YtdlhidjphaaklaaW.PrintWords Go.Proofs.Ytdlhidjphaaklaa.M
set_option linter.unusedVariables false
set_option linter.unusedSimpArgs false

/-- A row of one's own whose block stands between b and c. -/
def RowB (w : World) (b c : Nat) (v : Value) (xs : List S66) : Prop := Kd.R k66 66 w b (fun k => b ≤ k ∧ k < c) v xs
theorem RowB.of {w : World} {b : Nat} {ok : Nat → Prop} {v : Value} {xs : List S66} (h : Kd.R k66 66 w b ok v xs) : RowB w b w.heap.size v xs := Kd.R_mono (Kd.R_bound h) (fun k hk => ⟨hk.2.1, hk.2.2.1⟩)
theorem RowB.below {w w1 : World} {b c : Nat} {v : Value} {xs : List S66} (h : RowB w b c v xs) (hb : Below w.heap.size w w1) : RowB w1 b c v xs := Kd.R_below h hb
theorem RowB.chg {S : Nat → Prop} {w w1 : World} {b c : Nat} {v : Value} {xs : List S66} (h : RowB w b c v xs) (hc : Chg S w w1) (hs : ∀ k, b ≤ k → k < c → k < w.heap.size → ¬ S k) : RowB w1 b c v xs :=
  Kd.R_step h (fun k ok hk => hc.block k hk (hs k ok.1 ok.2 hk))
theorem RowB.form {w : World} {b c : Nat} {v : Value} {xs : List S66} (h : RowB w b c v xs) : ∃ A n, v = .slice A xs.length n ∧ xs.length ≤ n ∧ Kd.C k66 w A xs.length xs := Kd.R_reads h
theorem RowB.reads {w : World} {b c : Nat} {A : Option Addr} {m n : Nat} {xs : List S66} (h : RowB w b c (.slice A m n) xs) : m = xs.length ∧ m ≤ n ∧ Kd.C k66 w A xs.length xs := Kd.R_reads' h
theorem eqNote_ev (n : S66) : laws_eqNote.f n.f0 n.f1 n.f0 n.f1 = some true := by
  unfold laws_eqNote.f
  rw [if_pos rfl, if_pos rfl]
theorem rdNote (xs : List S66) (i : Nat) (h : i < xs.length) : rd_T66 xs (i : Int) = xs[i] := by
  show xs.getD i _ = _
  rw [List.getD_eq_getElem?_getD, List.getElem?_eq_getElem h]
  rfl
theorem eqNoteS_ev (xs : List S66) (hl : xs.length ≤ 1099511627776) : Ev (fun k => laws_eqNoteS.f k xs xs) true := by
  unfold laws_eqNoteS.f
  simp only [if_true]
  have := ev_loop (n := xs.length) (l0 := fun k (s : Unit) i => laws_eqNoteS.l0 k xs xs i) (S := fun _ => ()) (r := true) ?_ ?_
  · simpa using this
  · refine Ev.step (f := fun _ => some true) (fun k => ?_) (Ev.now _)
    simp only [laws_eqNoteS.l0]
    rw [if_neg (by omega)]
  · intro i hi ih
    refine Ev.step (f := fun k => laws_eqNoteS.l0 k xs xs ((i + 1 : Nat) : Int)) (fun k => ?_) ih
    simp only [laws_eqNoteS.l0]
    rw [if_pos (by omega), if_pos (by omega), if_pos (by omega), rdNote _ _ hi, eqNote_ev, Option.bind_some, if_pos rfl, wsucc (by omega)]
/-- Two rows that are the same are told to be. -/
theorem eqNotes_calls (xs : List S66) (hl : xs.length ≤ 1099511627776) {w : World} {b c b' c' : Nat} {A A' : Option Addr} {n n' : Nat} (h : RowB w b c (.slice A xs.length n) xs) (h' : RowB w b' c' (.slice A' xs.length n') xs) :
    Calls Try.prog 13 #[.slice A xs.length n, .slice A' xs.length n'] w fun e w' => e = .returned (.bool true) ∧ Below w.heap.size w w' := by
  obtain ⟨k, hk⟩ := (eqNoteS_ev xs hl).rounds
  exact laws_eqNoteS.calls k _ _ _ _ _ _ _ w h.reads.2.2 h.reads.2.1 h'.reads.2.2 h'.reads.2.1 hk
noncomputable def mkN (n : Nat) : List S66 := (List.range n).map fun i => ⟨mt (1 + 2 * (i : Nat)), mt (1 + 2 * (i : Nat) + 1)⟩
theorem mkN_len (n : Nat) : (mkN n).length = n := by simp [mkN]
theorem mkN_succ (n : Nat) : mkN (n + 1) = mkN n ++ [⟨mt (1 + 2 * (n : Nat)), mt (1 + 2 * (n : Nat) + 1)⟩] := by simp [mkN, List.range_succ]
theorem mkN_at (n i : Nat) (h : i < n) : (mkN n)[i]'(by rw [mkN_len]; exact h) = ⟨mt (1 + 2 * (i : Nat)), mt (1 + 2 * (i : Nat) + 1)⟩ := by simp [mkN]
theorem set_step {α : Type} (a : List α) (x y : α) (r : List α) : (a ++ x :: r).set a.length y = a ++ [y] ++ r := by
  rw [List.set_append_right _ _ (Nat.le_refl _), Nat.sub_self, List.set_cons_zero]
  simp
theorem markNoteS_ev (xs : List S66) (hl : xs.length ≤ 1099511627776) : Ev (fun k => laws_markNoteS.f k xs 1) (1 + 2 * (xs.length : Nat), mkN xs.length) := by
  unfold laws_markNoteS.f
  have key : ∀ d i (r : List S66), r.length = d → Ev (fun k => laws_markNoteS.l0 k (mkN i ++ r) (1 + 2 * (i : Nat)) (i : Int)) (1 + 2 * ((i + d : Nat) : Int), mkN (i + d)) ∨ ¬ i + d ≤ 1099511627776 := by
    intro d
    induction d with
    | zero =>
      intro i r hr
      obtain rfl := List.length_eq_zero_iff.1 hr
      refine .inl (Ev.step (f := fun _ => some (1 + 2 * ((i + 0 : Nat) : Int), mkN (i + 0))) (fun k => ?_) (Ev.now _))
      simp only [laws_markNoteS.l0]
      rw [if_neg (by simp [mkN_len]), List.append_nil]
      rfl
    | succ d ih =>
      intro i r hr
      by_cases hb : i + (d + 1) ≤ 1099511627776
      · cases r with
        | nil => simp at hr
        | cons x r =>
          rcases ih (i + 1) r (by simpa using hr) with h | h
          · refine .inl ?_
            rw [show i + (d + 1) = i + 1 + d by omega]
            refine Ev.step (f := fun k => (laws_markText.f k (1 + 2 * (i : Nat))).bind fun t263 => ((laws_markText.f k (1 + 2 * (i : Nat) + 1)).bind fun t265 => (laws_markNoteS.l0 k (mkN i ++ [⟨t263, t265⟩] ++ r) (1 + 2 * ((i + 1 : Nat) : Int)) ((i + 1 : Nat) : Int)))) (fun k => ?_) ?_
            · have h0 : (i : Int).toNat = i := by omega
              have e : rd_T66 (mkN i ++ x :: r) (i : Int) = x := by
                rw [rdNote _ _ (by simp [mkN_len])]
                rw [List.getElem_append_right (by rw [mkN_len]; exact Nat.le_refl _)]
                simp [mkN_len]
              simp only [laws_markNoteS.l0]
              rw [if_pos (by simp [mkN_len]; omega), w64 (i := 1 + 2 * (i : Int) + 1) (by omega) (by omega), w64 (i := 1 + 2 * (i : Int) + 1 + 1) (by omega) (by omega), wsucc (by omega)]
              congr 1
              funext t
              rw [if_pos (by omega), Option.bind_some, h0]
              have hs : (mkN i ++ x :: r).set i (⟨t, (rd_T66 (mkN i ++ x :: r) (i : Int)).f1⟩ : S66) = mkN i ++ ⟨t, x.f1⟩ :: r := by
                rw [e]
                have := set_step (mkN i) x (⟨t, x.f1⟩ : S66) r
                rw [mkN_len] at this
                rw [this]; simp
              rw [hs]
              congr 1
              funext u
              have e2 : rd_T66 (mkN i ++ (⟨t, x.f1⟩ : S66) :: r) (i : Int) = ⟨t, x.f1⟩ := by
                rw [rdNote _ _ (by simp [mkN_len])]
                rw [List.getElem_append_right (by rw [mkN_len]; exact Nat.le_refl _)]
                simp [mkN_len]
              rw [e2]
              have := set_step (mkN i) (⟨t, x.f1⟩ : S66) (⟨t, u⟩ : S66) r
              rw [mkN_len] at this
              rw [this]
              congr 1
            · refine Ev.bind (mt_ev (by omega)) (Ev.bind (mt_ev (by omega)) ?_)
              rw [mkN_succ] at h
              exact h
          · exact absurd hb (by omega)
      · exact .inr hb
  rcases key xs.length 0 xs rfl with h | h
  · simpa [mkN] using h
  · omega
theorem heldNoteS_ev (n : Nat) (hl : n ≤ 1099511627776) : Ev (fun k => laws_heldNoteS.f k (mkN n) 1) (1 + 2 * (n : Nat)) := by
  unfold laws_heldNoteS.f
  have := ev_loop (n := n) (l0 := fun k (s : Int) i => laws_heldNoteS.l0 k (mkN n) s i) (S := fun i => 1 + 2 * ((i : Nat) : Int)) (r := 1 + 2 * ((n : Nat) : Int)) ?_ ?_
  · simpa using this
  · refine Ev.step (f := fun _ => some (1 + 2 * ((n : Nat) : Int))) (fun k => ?_) (Ev.now _)
    simp only [laws_heldNoteS.l0]
    rw [if_neg (by rw [mkN_len]; omega)]
  · intro i hi ih
    have e : rd_T66 (mkN n) (i : Int) = ⟨mt (1 + 2 * (i : Nat)), mt (1 + 2 * (i : Nat) + 1)⟩ := by rw [rdNote _ _ (by rw [mkN_len]; exact hi), mkN_at n i hi]
    refine Ev.step (f := fun k => (laws_markText.f k (1 + 2 * (i : Nat))).bind fun t268 => (if (mt (1 + 2 * (i : Nat))).toList = t268.toList then ((laws_markText.f k (1 + 2 * (i : Nat) + 1)).bind fun t270 => (if (mt (1 + 2 * (i : Nat) + 1)).toList = t270.toList then (laws_heldNoteS.l0 k (mkN n) (1 + 2 * ((i + 1 : Nat) : Int)) ((i + 1 : Nat) : Int)) else (some (-1)))) else (some (-1)))) (fun k => ?_) ?_
    · simp only [laws_heldNoteS.l0]
      rw [if_pos (by rw [mkN_len]; omega), if_pos (by omega), e, w64 (i := 1 + 2 * (i : Int) + 1) (by omega) (by omega), w64 (i := 1 + 2 * (i : Int) + 1 + 1) (by omega) (by omega), wsucc (by omega)]
      rw [show (1 : Int) + 2 * (i : Int) + 1 + 1 = 1 + 2 * ((i + 1 : Nat) : Int) by omega]
    · refine Ev.bind (mt_ev (by omega)) ?_
      simp only [if_true]
      refine Ev.bind (mt_ev (by omega)) ?_
      simp only [if_true]
      exact ih
/-- The world with its first blocks alone. -/
def cutW (w : World) (b : Nat) : World := { w with heap := w.heap.extract 0 b }
theorem cutW_size (w : World) (b : Nat) (h : b ≤ w.heap.size) : (cutW w b).heap.size = b := by simp [cutW]; omega
theorem cutW_below (w : World) (b : Nat) (h : b ≤ w.heap.size) : Below b (cutW w b) w := by
  refine ⟨rfl, rfl, rfl, by rw [cutW_size w b h]; exact h, fun k hk => ?_⟩
  simp [cutW, Array.getElem?_extract]
  omega
theorem markNotes_calls (xs : List S66) (hl : xs.length ≤ 1099511627776) {w : World} {b c : Nat} {v : Value} (h : RowB w b c v xs) (hb : b ≤ w.heap.size) :
    Calls Try.prog 15 #[v, .int .i64 1] w fun e w' => e = .returned (.int .i64 (1 + 2 * (xs.length : Nat))) ∧ RowB w' b w'.heap.size v (mkN xs.length) ∧ Chg (fun k => b ≤ k ∧ k < c ∨ w.heap.size ≤ k) w w' := by
  obtain ⟨k, hk⟩ := (markNoteS_ev xs hl).rounds
  have hB := cutW_below w b hb
  have hz := cutW_size w b hb
  refine (laws_markNoteS.calls k (fun k => b ≤ k ∧ k < c) v xs 1 _ _ (cutW w b) w (hz.symm ▸ hB) (hz.symm ▸ h) hk).mono ?_
  rintro e w' ⟨rfl, hr, hB', hk'⟩
  rw [hz] at hr hB'
  refine ⟨rfl, RowB.of hr, ?_⟩
  exact ⟨hB'.os, hB'.tape, hB'.output, hk'.1, fun k hk hs => hk'.2 k hk (fun e => hs (.inl e))⟩
theorem heldNotes_calls (n : Nat) (hl : n ≤ 1099511627776) {w : World} {b c : Nat} {A : Option Addr} {m cap : Nat} (h : RowB w b c (.slice A m cap) (mkN n)) :
    Calls Try.prog 16 #[.slice A m cap, .int .i64 1] w fun e w' => e = .returned (.int .i64 (1 + 2 * (n : Nat))) ∧ Below w.heap.size w w' := by
  obtain ⟨k, hk⟩ := (heldNoteS_ev n hl).rounds
  obtain ⟨rfl, h1, h2⟩ := h.reads
  exact laws_heldNoteS.calls k _ _ _ _ _ w h2 h1 hk
end Go.Proofs.Ytdlhidjphaaklaa.H
