/- slices.Delete of one element. (Printed by a program of these sessions: one walk for texts, one for trees.) -/
import Derived.Test.YtnbnpgjgibcmpaaAid
import Derived.Test.YtnbnpgjgibcmpaaLists
import Derived.Test.YtnbnpgjgibcmpaaMark
import Derived.Test.YtnbnpgjgibcmpaaOwn
import Derived.Deep.RegionLaw
import Derived.Shelf.RegionOpenPlain
import Derived.Lib.SliceRun
import Derived.Laws.IdiomCopy
namespace Go.Proofs.Ytnbnpgjgibcmpaa.H
open Go.RowKit Go.Proofs.Ytnbnpgjgibcmpaa.P Go.Proofs.YtnbnpgjgibcmpaaW.PrintWords Go.Proofs.Ytnbnpgjgibcmpaa.M
set_option linter.unusedVariables false
set_option linter.unusedSimpArgs false

theorem own_sets {b e s n g cap : Nat} : ∀ (vs : List Value) (o : Nat) (w : World) (xs : List Value), w.ownsRow b e s (.slice (some ⟨g, 0, none⟩) n cap) n xs → o + vs.length ≤ xs.length →
    (w.setCells g o vs).ownsRow b e s (.slice (some ⟨g, 0, none⟩) n cap) n (xs.take o ++ vs ++ xs.drop (o + vs.length))
  | [], o, w, xs, h, _ => by
    show w.ownsRow _ _ _ _ _ _
    rw [List.append_nil, List.length_nil, Nat.add_zero, List.take_append_drop]
    exact h
  | v :: r, o, w, xs, h, hl => by
    rw [List.length_cons] at hl
    have h2 := own_sets r (o + 1) (w.setCell ⟨g, o, none⟩ v) (xs.set o v) (own_set h o v (by omega)) (by rw [List.length_set]; omega)
    have e1 : (xs.set o v).take (o + 1) = xs.take o ++ [v] := by
      rw [List.take_add_one, List.getElem?_set_self (by omega), List.take_set_of_le (Nat.le_refl _)]
      rfl
    have e2 : (xs.set o v).drop (o + 1 + r.length) = xs.drop (o + 1 + r.length) := by rw [List.drop_set_of_lt (by omega)]
    rw [e1, e2] at h2
    rw [List.length_cons, show o + (r.length + 1) = o + 1 + r.length by omega]
    show ((w.setCell ⟨g, o, none⟩ v).setCells g (o + 1) r).ownsRow _ _ _ _ _ _
    simpa using h2
theorem own_shrink {w : World} {b e s n g cap m : Nat} {xs : List Value} (h : w.ownsRow b e s (.slice (some ⟨g, 0, none⟩) n cap) n xs) (hm : m ≤ n) : w.ownsRow b e s (.slice (some ⟨g, 0, none⟩) m cap) m (xs.take (m * s)) := by
  obtain ⟨hl, h2⟩ := h
  have hms : m * s ≤ n * s := Nat.mul_le_mul_right _ hm
  rcases h2 with ⟨h0, _⟩ | ⟨g', cap', cur, hv, q0, q1, q2, q3, q4, q5⟩
  · cases h0
  · injection hv with h1 h2 h3
    injection h1 with h1
    injection h1 with h1
    subst h1; subst h3
    exact ⟨by rw [List.length_take, hl]; omega, .inr ⟨_, _, cur, rfl, q0, q1, by omega, q3, q4, by rw [← q5, List.take_take, Nat.min_eq_left hms]⟩⟩
theorem chg_sets (g : Nat) : ∀ (vs : List Value) (o : Nat) (w : World), Chg (fun k => k = g) w (w.setCells g o vs)
  | [], _, w => Chg.refl _ _
  | v :: r, o, w => (Chg.set (S := fun k => k = g) w ⟨g, o, none⟩ v rfl).trans (chg_sets g r (o + 1) _)
theorem run_clear_one {P : Program} (w : World) (t e ty : TypeId) (z : Value) (ht : P.underlying t = some (.slice e)) (hv : ∀ w, (zeroValue e).run P w = .ok z w) (s : Nat) (hs : z.cells.size = s) (zc : List Value) (hz : z.cells.toList = zc) (h1 : ∀ v ∈ zc, v.oneCell' = true) (b o c : Nat)
    (hc : ∀ j, j < s → (w.cell? ⟨b, o + j, none⟩).isSome = true ∧ w.frozen? ⟨b, o + j, none⟩ = false) :
    (Builtin.clear_ #[t] ty #[.slice (some ⟨b, o, none⟩) 1 c]).run P w = .ok (.tuple #[]) (w.setCells b o zc) := by
  have hl : zc.length = s := by rw [← hz, Array.length_toList, hs]
  have hzc : (Builtin.zeroCells z.cells 1).toList = zc := by
    rw [← hz]
    simp only [Builtin.zeroCells, Nat.one_mul]
    apply List.ext_getElem
    · simp
    · intro i h1 h2
      have h3 : i < z.cells.size := by simpa using h2
      simp [Nat.mod_eq_of_lt h3, h3]
  have hst := run_storeCells_cells (P := P) b o zc 0 w (by intro j hj; exact (hc j (by omega)).1) (by intro j hj; exact (hc j (by omega)).2) h1
  simp only [Nat.add_zero] at hst
  simp [Builtin.clear_, run_underlying ht, hv, hzc, hst]

set_option maxHeartbeats 4000000 in
set_option maxRecDepth 1000000 in
theorem delN_calls (b g n cap i : Nat) (xs : List Value) (w : World) (h : w.ownsRow b 25 5 (.slice (some ⟨g, 0, none⟩) n cap) n xs) (hi : i < n) (hn : n ≤ 1099511627776) (h1c : ∀ u ∈ xs, u.oneCell' = true) :
    Calls Try.prog 98 #[.slice (some ⟨g, 0, none⟩) n cap, .int .i64 i, .int .i64 ((i : Int) + 1)] w fun e w' => e = .returned (.slice (some ⟨g, 0, none⟩) (n - 1) cap) ∧ w'.ownsRow b 25 5 (.slice (some ⟨g, 0, none⟩) (n - 1) cap) (n - 1) (xs.take (i * 5) ++ xs.drop (i * 5 + 5)) ∧ Chg (fun k => k = g) w w' := by
  have hu := Try.underlying25
  have t24 := Try.underlying23
  obtain ⟨i0, hi0, hz0, hz1, hz2⟩ := info_parts info25
  have hlen : xs.length = n * 5 := h.1
  have hcap : n ≤ cap ∧ cap ≤ maxLen := by
    obtain ⟨_, h2⟩ := h
    rcases h2 with ⟨h0, _⟩ | ⟨g', cap', cur, hv, _, _, q1, q2, _⟩
    · cases h0
    · injection hv with _ _ q3
      exact ⟨q3 ▸ q1, q3 ▸ q2⟩
  have hcap1 := hcap.1
  have hcap2 : cap ≤ 9223372036854775807 := hcap.2
  obtain ⟨m, rfl⟩ : ∃ m, n = i + 1 + m := ⟨n - (i + 1), by omega⟩
  obtain ⟨news, hnews⟩ : ∃ news, news = xs.drop (i * 5 + 5) := ⟨_, rfl⟩
  have hnl : news.length = m * 5 := by rw [hnews, List.length_drop, hlen]; omega
  have HD : w.drew.ownsRow b 25 5 (.slice (some ⟨g, 0, none⟩) (i + 1 + m) cap) (i + 1 + m) xs := h
  obtain ⟨A, hA, hsrc⟩ : ∃ A : Addr, (if cap = i + 1 then some (⟨g, 0, none⟩ : Addr) else some ⟨g, (i + 1) * 5, none⟩) = some A ∧ Hid (∀ t u, news[t]? = some u → w.drew.cell? (A.add t) = some u) := by
    by_cases h2 : cap = i + 1
    · refine ⟨⟨g, 0, none⟩, by simp [h2], fun t u hu => ?_⟩
      have h0 : news.length = 0 := by rw [hnl, show m = 0 by omega]
      rw [List.length_eq_zero_iff.1 h0] at hu
      simp at hu
    · refine ⟨⟨g, (i + 1) * 5, none⟩, by simp [h2], fun t u hu => ?_⟩
      rw [hnews, List.getElem?_drop] at hu
      have := own_cell HD hu
      rw [Addr.add_lit, show (i + 1) * 5 + t = i * 5 + 5 + t by omega]
      exact this
  have s1 : Hid (news.length = m * 5) := hnl
  have s2 : Hid (∀ u ∈ news, u.oneCell' = true) := fun u hu => h1c u (by rw [hnews] at hu; exact List.mem_of_mem_drop hu)
  have s3 : Hid (∀ t, t < news.length → (w.drew.cell? ⟨g, 0 + i * 5 + t, none⟩).isSome = true ∧ w.drew.frozen? ⟨g, 0 + i * 5 + t, none⟩ = false) := by
    intro t ht
    obtain ⟨u, hu, hf⟩ := own_at HD (0 + i * 5 + t) (by omega)
    exact ⟨by rw [hu]; rfl, hf⟩
  obtain ⟨W1, hW1⟩ : ∃ W1, W1 = w.drew.setCells g (0 + i * 5) news := ⟨_, rfl⟩
  have H1 : W1.ownsRow b 25 5 (.slice (some ⟨g, 0, none⟩) (i + 1 + m) cap) (i + 1 + m) (xs.take (i * 5) ++ news ++ xs.drop (i * 5 + news.length)) := by
    rw [hW1, Nat.zero_add]
    exact own_sets news (i * 5) w.drew xs HD (by omega)
  have hcl : ∀ ty, (Builtin.clear_ #[23] ty #[.slice (some ⟨g, (i + m) * 5, none⟩) (i + 1 + m - (i + m)) (cap - (i + m))]).run Try.prog W1 = .ok (.tuple #[]) (W1.setCells g ((i + m) * 5) [.int .i64 0, .int .i64 0, .string ⟨#[]⟩, .slice none 0 0, .slice none 0 0]) := by
    intro ty
    rw [show i + 1 + m - (i + m) = 1 by omega]
    have hx : (xs.take (i * 5) ++ news ++ xs.drop (i * 5 + news.length)).length = (i + 1 + m) * 5 := H1.1
    exact run_clear_one W1 _ _ ty (.agg #[(.int .i64 0), (.int .i64 0), (.string ⟨#[]⟩), (.slice none 0 0), (.slice none 0 0)]) t24 (fun w => Try.zeroValue25 w) 5 rfl [.int .i64 0, .int .i64 0, .string ⟨#[]⟩, .slice none 0 0, .slice none 0 0] rfl (by intro v hv; simp at hv; (rcases hv with rfl | rfl | rfl | rfl | rfl <;> rfl)) g ((i + m) * 5) _ (fun t ht => by
      obtain ⟨u, hu, hf⟩ := own_at H1 ((i + m) * 5 + t) (by rw [hx]; omega)
      exact ⟨by rw [hu]; rfl, hf⟩)
  have H2 : (W1.setCells g ((i + m) * 5) [.int .i64 0, .int .i64 0, .string ⟨#[]⟩, .slice none 0 0, .slice none 0 0]).ownsRow b 25 5 (.slice (some ⟨g, 0, none⟩) (i + m) cap) (i + m) (xs.take (i * 5) ++ news) := by
    have hx : (xs.take (i * 5) ++ news ++ xs.drop (i * 5 + news.length)).length = (i + 1 + m) * 5 := H1.1
    have h3 := own_shrink (own_sets [.int .i64 0, .int .i64 0, .string ⟨#[]⟩, .slice none 0 0, .slice none 0 0] ((i + m) * 5) W1 _ H1 (by rw [hx]; simp only [List.length_cons, List.length_nil]; omega)) (m := i + m) (by omega)
    have hl4 : (xs.take (i * 5) ++ news).length = (i + m) * 5 := by rw [List.length_append, List.length_take, hnl]; omega
    rw [List.append_assoc (List.take _ _), List.take_append_of_le_length (by rw [List.length_take, hx]; omega), List.take_take, Nat.min_self, List.take_append_of_le_length (by omega), List.take_of_length_le (by omega)] at h3
    exact h3
  have hch : Chg (fun k => k = g) w (W1.setCells g ((i + m) * 5) [.int .i64 0, .int .i64 0, .string ⟨#[]⟩, .slice none 0 0, .slice none 0 0]) := by
    rw [hW1]
    exact (Chg.of_same (S := fun k => k = g) ((Below.refl w.heap.size w).drew)).trans ((chg_sets _ _ _ _).trans (chg_sets _ _ _ _))
  have HW := Lib.hid hW1
  have HH2 := Lib.hid H2
  have HCH := Lib.hid hch
  have HNW := Lib.hid hnews
  have hic : i ≤ cap := by omega
  have hjc : i + 1 ≤ cap := by omega
  have mixed : Try.prog.follows .mixedOrders = true := by kernel_rfl
  have hq0 : (0 : Int) ≤ (i : Int) + 1 := by omega
  have hq1 : (i : Int) + 1 ≤ (i : Int) + 1 + (m : Int) := by omega
  have hne : decide ((i : Int) = (i : Int) + 1) = false := decide_eq_false (by omega)
  clear hW1 H1 H2 hch hnl hlen h1c h HD hcap hi hnews
  go_enter Try.func98, Try.ntmps98
  go_wp2_with fail
  go_region_law_o (refine step_append_room rfl (.tmp 22) (.tmp 25) 23 rfl 25 i0 5 t24 hi0 hz1 g 0 i cap (by simp [Act.eval, Act.put]) A m (cap - (i + 1)) news (by simp [Act.eval, Act.put]) s1.out hsrc.out s2.out (by omega) s3.out ?_; rw [← HW.out])
  go_wp2
  go_ret
  refine ⟨by rw [show i + 1 + m - 1 = i + m by omega]; rfl, ?_, HCH.out⟩
  rw [← HNW.out, show i + 1 + m - 1 = i + m by omega]
  exact HH2.out

set_option maxHeartbeats 4000000 in
set_option maxRecDepth 1000000 in
theorem delS_calls (b g n cap i : Nat) (xs : List Value) (w : World) (h : w.ownsRow b 9 1 (.slice (some ⟨g, 0, none⟩) n cap) n xs) (hi : i < n) (hn : n ≤ 1099511627776) (h1c : ∀ u ∈ xs, u.oneCell' = true) :
    Calls Try.prog 97 #[.slice (some ⟨g, 0, none⟩) n cap, .int .i64 i, .int .i64 ((i : Int) + 1)] w fun e w' => e = .returned (.slice (some ⟨g, 0, none⟩) (n - 1) cap) ∧ w'.ownsRow b 9 1 (.slice (some ⟨g, 0, none⟩) (n - 1) cap) (n - 1) (xs.take (i) ++ xs.drop (i + 1)) ∧ Chg (fun k => k = g) w w' := by
  have hu := Try.underlying9
  have t24 := Try.underlying22
  obtain ⟨i0, hi0, hz0, hz1, hz2⟩ := info_parts info9
  have hlen : xs.length = n := by have := h.1; rw [Nat.mul_one] at this; exact this
  have hcap : n ≤ cap ∧ cap ≤ maxLen := by
    obtain ⟨_, h2⟩ := h
    rcases h2 with ⟨h0, _⟩ | ⟨g', cap', cur, hv, _, _, q1, q2, _⟩
    · cases h0
    · injection hv with _ _ q3
      exact ⟨q3 ▸ q1, q3 ▸ q2⟩
  have hcap1 := hcap.1
  have hcap2 : cap ≤ 9223372036854775807 := hcap.2
  obtain ⟨m, rfl⟩ : ∃ m, n = i + 1 + m := ⟨n - (i + 1), by omega⟩
  obtain ⟨news, hnews⟩ : ∃ news, news = xs.drop (i + 1) := ⟨_, rfl⟩
  have hnl : news.length = m := by rw [hnews, List.length_drop, hlen]; omega
  have HD : w.drew.ownsRow b 9 1 (.slice (some ⟨g, 0, none⟩) (i + 1 + m) cap) (i + 1 + m) xs := h
  obtain ⟨A, hA, hsrc⟩ : ∃ A : Addr, (if cap = i + 1 then some (⟨g, 0, none⟩ : Addr) else some ⟨g, (i + 1), none⟩) = some A ∧ Hid (∀ t u, news[t]? = some u → w.drew.cell? (A.add t) = some u) := by
    by_cases h2 : cap = i + 1
    · refine ⟨⟨g, 0, none⟩, by simp [h2], fun t u hu => ?_⟩
      have h0 : news.length = 0 := by rw [hnl, show m = 0 by omega]
      rw [List.length_eq_zero_iff.1 h0] at hu
      simp at hu
    · refine ⟨⟨g, (i + 1), none⟩, by simp [h2], fun t u hu => ?_⟩
      rw [hnews, List.getElem?_drop] at hu
      have := own_cell HD hu
      rw [Addr.add_lit, show (i + 1) + t = i + 1 + t by omega]
      exact this
  have s1 : Hid (news.length = m * 1) := hnl.trans (Nat.mul_one m).symm
  have s2 : Hid (∀ u ∈ news, u.oneCell' = true) := fun u hu => h1c u (by rw [hnews] at hu; exact List.mem_of_mem_drop hu)
  have s3 : Hid (∀ t, t < news.length → (w.drew.cell? ⟨g, 0 + i * 1 + t, none⟩).isSome = true ∧ w.drew.frozen? ⟨g, 0 + i * 1 + t, none⟩ = false) := by
    intro t ht
    rw [Nat.mul_one]
    obtain ⟨u, hu, hf⟩ := own_at HD (0 + i + t) (by omega)
    exact ⟨by rw [hu]; rfl, hf⟩
  obtain ⟨W1, hW1⟩ : ∃ W1, W1 = w.drew.setCells g (0 + i * 1) news := ⟨_, rfl⟩
  have H1 : W1.ownsRow b 9 1 (.slice (some ⟨g, 0, none⟩) (i + 1 + m) cap) (i + 1 + m) (xs.take (i) ++ news ++ xs.drop (i + news.length)) := by
    rw [hW1, Nat.zero_add, Nat.mul_one]
    exact own_sets news (i) w.drew xs HD (by omega)
  have hcl : ∀ ty, (Builtin.clear_ #[22] ty #[.slice (some ⟨g, i + m, none⟩) (i + 1 + m - (i + m)) (cap - (i + m))]).run Try.prog W1 = .ok (.tuple #[]) (W1.setCells g ((i + m)) [.string ⟨#[]⟩]) := by
    intro ty
    rw [show i + 1 + m - (i + m) = 1 by omega]
    have hx : (xs.take (i) ++ news ++ xs.drop (i + news.length)).length = (i + 1 + m) := by have := H1.1; rw [Nat.mul_one] at this; exact this
    exact run_clear_one W1 _ _ ty (.string ⟨#[]⟩) t24 (fun w => Try.zeroValue9 w) 1 rfl [.string ⟨#[]⟩] rfl (by intro v hv; simp at hv; (subst hv; rfl)) g ((i + m)) _ (fun t ht => by
      obtain ⟨u, hu, hf⟩ := own_at H1 (i + m + t) (by rw [hx]; omega)
      exact ⟨by rw [hu]; rfl, hf⟩)
  have H2 : (W1.setCells g ((i + m)) [.string ⟨#[]⟩]).ownsRow b 9 1 (.slice (some ⟨g, 0, none⟩) (i + m) cap) (i + m) (xs.take (i) ++ news) := by
    have hx : (xs.take (i) ++ news ++ xs.drop (i + news.length)).length = (i + 1 + m) := by have := H1.1; rw [Nat.mul_one] at this; exact this
    have h3 := own_shrink (own_sets [.string ⟨#[]⟩] ((i + m)) W1 _ H1 (by rw [hx]; simp only [List.length_cons, List.length_nil]; omega)) (m := i + m) (by omega)
    have hl4 : (xs.take (i) ++ news).length = (i + m) := by rw [List.length_append, List.length_take, hnl]; omega
    rw [Nat.mul_one] at h3
    rw [List.append_assoc (List.take _ _), List.take_append_of_le_length (by rw [List.length_take, hx]; omega), List.take_take, Nat.min_self, List.take_append_of_le_length (by omega), List.take_of_length_le (by omega)] at h3
    exact h3
  have hch : Chg (fun k => k = g) w (W1.setCells g ((i + m)) [.string ⟨#[]⟩]) := by
    rw [hW1]
    exact (Chg.of_same (S := fun k => k = g) ((Below.refl w.heap.size w).drew)).trans ((chg_sets _ _ _ _).trans (chg_sets _ _ _ _))
  have HW := Lib.hid hW1
  have HH2 := Lib.hid H2
  have HCH := Lib.hid hch
  have HNW := Lib.hid hnews
  have hic : i ≤ cap := by omega
  have hjc : i + 1 ≤ cap := by omega
  have mixed : Try.prog.follows .mixedOrders = true := by kernel_rfl
  have hq0 : (0 : Int) ≤ (i : Int) + 1 := by omega
  have hq1 : (i : Int) + 1 ≤ (i : Int) + 1 + (m : Int) := by omega
  have hne : decide ((i : Int) = (i : Int) + 1) = false := decide_eq_false (by omega)
  clear hW1 H1 H2 hch hnl hlen h1c h HD hcap hi hnews
  go_enter Try.func97, Try.ntmps97
  go_wp2_with fail
  go_region_law_o (refine step_append_room rfl (.tmp 22) (.tmp 25) 22 rfl 9 i0 1 t24 hi0 hz1 g 0 i cap (by simp [Act.eval, Act.put]) A m (cap - (i + 1)) news (by simp [Act.eval, Act.put]) s1.out hsrc.out s2.out (by omega) s3.out ?_; rw [← HW.out])
  go_wp2
  go_ret
  refine ⟨by rw [show i + 1 + m - 1 = i + m by omega]; rfl, ?_, HCH.out⟩
  rw [← HNW.out, show i + 1 + m - 1 = i + m by omega]
  exact HH2.out
end Go.Proofs.Ytnbnpgjgibcmpaa.H
