/- slices.Insert of one element. (Printed by wip/mkins.py: one walk for texts, one for trees.) -/
import Derived.Test.YtnbnpgjgibcmpaaAid
import Derived.Test.YtnbnpgjgibcmpaaDelete
import Derived.Test.YtnbnpgjgibcmpaaLists
import Derived.Test.YtnbnpgjgibcmpaaMark
import Derived.Test.YtnbnpgjgibcmpaaOwn
import Derived.Deep.RegionLaw
import Derived.Shelf.RegionOpenPlain
import Derived.Lib.SliceRun
import Derived.Lib.Overlaps
import Derived.Lib.AppendZerosOnto
import Derived.Laws.IdiomCopy
import Derived.Laws.NewBlocks
import Derived.Shelf.Spec.SlicesInsert
namespace Go.Proofs.Ytnbnpgjgibcmpaa.H
open Go.RowKit Go.Proofs.Ytnbnpgjgibcmpaa.P Go.Proofs.YtnbnpgjgibcmpaaW.PrintWords Go.Proofs.Ytnbnpgjgibcmpaa.M
set_option linter.unusedVariables false
set_option linter.unusedSimpArgs false

/-- Room for one more: the row with the cells behind it. -/
theorem own_extend {w : World} {b e s n g cap : Nat} {xs : List Value} (h : w.ownsRow b e s (.slice (some ⟨g, 0, none⟩) n cap) n xs) (hr : n + 1 ≤ cap) : ∃ junk : List Value, junk.length = s ∧ w.ownsRow b e s (.slice (some ⟨g, 0, none⟩) (n + 1) cap) (n + 1) (xs ++ junk) := by
  obtain ⟨hl, h2⟩ := h
  rcases h2 with ⟨h0, _⟩ | ⟨g', cap', cur, hv, q0, q1, q2, q3, q4, q5⟩
  · cases h0
  · injection hv with h1 h2 h3
    injection h1 with h1
    injection h1 with h1
    subst h1; subst h3
    have hc : (n + 1) * s ≤ cur.toList.length := by rw [Array.length_toList, q4]; exact Nat.mul_le_mul_right _ hr
    rw [Nat.succ_mul] at hc
    have hj : ((cur.toList.drop (n * s)).take s).length = s := by rw [List.length_take, List.length_drop]; omega
    refine ⟨(cur.toList.drop (n * s)).take s, hj, by rw [List.length_append, hj, hl, Nat.succ_mul], .inr ⟨_, _, cur, rfl, q0, q1, hr, q3, q4, ?_⟩⟩
    rw [← q5, Nat.succ_mul, List.take_add]
theorem run_copy_s {P : Program} (w : World) (dT sT ty elem : TypeId) (b o dLen dCap : Nat) (a : Addr) (sLen sCap s : Nat) (cs : List Value)
    (hu : P.underlying dT = some (.slice elem)) (hs : (P.info? elem).map (·.size) = some s) (n : Nat) (hm : Nat.min sLen dLen = n) (hn : cs.length = n * s)
    (hsrc : ∀ j v, cs[j]? = some v → w.cell? (a.add j) = some v) (hc : ∀ j, j < cs.length → (w.cell? ⟨b, o + j, none⟩).isSome = true) (hf : ∀ j, j < cs.length → w.frozen? ⟨b, o + j, none⟩ = false) (h1 : ∀ v ∈ cs, v.oneCell' = true) :
    (Builtin.copy_ #[dT, sT] ty #[.slice (some ⟨b, o, none⟩) dLen dCap, .slice (some a) sLen sCap]).run P w = .ok (goInt n) (w.setCells b o cs) := by
  have hl := run_loadCells_list (P := P) w a cs hsrc
  have hst := run_storeCells_cells (P := P) b o cs 0 w (by simpa using hc) (by simpa using hf) h1
  cases hq : P.info? elem with
  | none => simp [hq] at hs
  | some i =>
    have hi : i.size = s := by simpa [hq] using hs
    simp [Builtin.copy_, run_underlying hu, Builtin.lenOf, Builtin.firstCells, sizeOf, typeInfo, hq, hi, hm, ← hn, hl, hst]

set_option maxHeartbeats 4000000 in
set_option maxRecDepth 1000000 in
theorem insS_shift (g n cap i : Nat) (xs ys : List Value) (vb : Nat) (w : World) (h : w.ownsRow 0 9 1 (.slice (some ⟨g, 0, none⟩) n cap) n xs) (hi : i < n) (hn : n ≤ 1099511627776) (hroom : n + 1 ≤ cap) (h1x : ∀ u ∈ xs, u.oneCell' = true) (h1y : ∀ u ∈ ys, u.oneCell' = true) (hyl : ys.length = 1) (hv : w.heap[vb]? = some (.cells ys.toArray 9 (0, 0))) (hne : vb ≠ g) :
    Calls Try.prog 101 #[.slice (some ⟨g, 0, none⟩) n cap, .int .i64 i, .slice (some ⟨vb, 0, none⟩) 1 1] w fun e w' => e = .returned (.slice (some ⟨g, 0, none⟩) (n + 1) cap) ∧ w'.ownsRow 0 9 1 (.slice (some ⟨g, 0, none⟩) (n + 1) cap) (n + 1) (xs.take (i) ++ ys ++ xs.drop (i)) ∧ Chg (fun k => k = g) w w' := by
  have hu := Try.underlying9
  have t24 := Try.underlying22
  obtain ⟨i0, hi0, hz0, hzs, hzb⟩ := info_parts info9
  have hsz : (Try.prog.info? 9).map (·.size) = some 1 := by rw [hi0]; simp [hzs]
  have hlen : xs.length = n := by have := h.1; simpa using this
  have hcap : cap ≤ maxLen := by
    obtain ⟨_, h2⟩ := h
    rcases h2 with ⟨h0, _⟩ | ⟨g', cap', cur, hv, _, _, q1, q2, _⟩
    · cases h0
    · injection hv with _ _ q3
      exact q3 ▸ q2
  have hcap2 : cap ≤ 9223372036854775807 := hcap
  obtain ⟨junk, hjl, hext⟩ := own_extend h hroom
  have hdl : (xs.drop (i)).length = (n - i) * 1 := by rw [List.length_drop, hlen]; omega
  have hpos : 0 < (n + 1) * 1 := by omega
  have hcells := fun (j : Nat) (hj : j < (n + 1) * 1) => own_at hext j (by rw [hext.1]; exact hj)
  have hxc : ∀ (j : Nat) (v : Value), xs[j]? = some v → w.cell? ⟨g, j, none⟩ = some v := fun j v hj => own_cell h hj
  have hyc : ∀ (j : Nat) (v : Value), ys[j]? = some v → w.cell? ⟨vb, j, none⟩ = some v := fun j v hj => by rw [blk_cell hv]; simpa using hj
  obtain ⟨curg, hcurg, hcurs⟩ : ∃ cur : Array Value, w.heap[g]? = some (.cells cur 9 (0, 0)) ∧ cur.size ≠ 0 := by
    obtain ⟨_, h2⟩ := h
    rcases h2 with ⟨h0, _⟩ | ⟨g', cap', cur, hv, _, hg, q1, q2, q3, _⟩
    · cases h0
    · injection hv with h1 h2 h3
      injection h1 with h1
      injection h1 with h1
      subst h1; subst h3
      exact ⟨cur, hg, by rw [q3]; have : 0 < cap := by omega
                         omega⟩
  have hov : ∀ lb cb, (callFunc 132 #[.slice (some ⟨vb, 0, none⟩) 1 1, .slice (some ⟨g, i + 1, none⟩) lb cb]).run Try.prog w = .ok (.value (.bool false)) w := fun lb cb => by
    rw [run_callFunc_extern Try.func132 (by kernel_rfl) (by kernel_rfl) (by kernel_rfl) (e := Extern.SlicesOverlaps.overlaps #[22, 22] #[4]) (by kernel_rfl),
      Lib.run_overlaps_apart w 22 4 9 t24 1 Try.sizeOf9 ⟨vb, 0, none⟩ ⟨g, i + 1, none⟩ 1 1 lb cb hne 9 9 1 curg.size (by simp [World.shape?, hv, hyl]) (by simp [World.shape?, hcurg]) hcurs (by simp [World.frozen?, hv]) (by simp [World.frozen?, hv])]
    rfl
  have mixed : Try.prog.follows .mixedOrders = true := by kernel_rfl
  have hz2 : ¬ ((i : Int) = (n : Int)) := by omega
  have hw1 : IntKind.i64.wrap ((i : Int) + 1) = (i : Int) + 1 := by rw [IntKind.wrap_i64]; omega
  have hb1 : (0 : Int) ≤ (i : Int) + 1 := by omega
  have hin : i ≤ n := by omega
  have htn : ((i : Int) + 1).toNat = i + 1 := by omega
  have hb2 : ¬ (cap = i + 1) := by omega
  have hb3 : (i : Int) ≤ (n : Int) + 1 := by omega
  have hb4 : ¬ (cap = i) := by omega
  have hcp1 : ∀ ty dc sc, (Builtin.copy_ #[22, 22] ty #[.slice (some ⟨g, i + 1, none⟩) (n - i) dc, .slice (some ⟨g, i, none⟩) (n + 1 - i) sc]).run Try.prog w.drew = .ok (goInt (n - i : Nat)) (w.drew.setCells g (i + 1) (xs.drop (i))) := fun ty dc sc =>
    run_copy_s w.drew _ _ ty 9 g (i + 1) (n - i) dc ⟨g, i, none⟩ (n + 1 - i) sc 1 (xs.drop (i)) t24 hsz (n - i) (by simp only [Nat.min_def]; split <;> omega) hdl
      (fun j v hj => by rw [Addr.add_lit]; exact hxc _ v (by rwa [List.getElem?_drop] at hj))
      (fun j hj => by obtain ⟨u, hu2, _⟩ := hcells (i + 1 + j) (by rw [hdl] at hj; omega); exact (congrArg Option.isSome hu2).trans rfl)
      (fun j hj => by obtain ⟨u, _, hf⟩ := hcells (i + 1 + j) (by rw [hdl] at hj; omega); exact hf) (fun v hv => h1x v (List.mem_of_mem_drop hv))
  obtain ⟨W1, hW1⟩ : ∃ W1, W1 = w.drew.setCells g (i + 1) (xs.drop (i)) := ⟨_, rfl⟩
  have hd0 : w.drew.ownsRow 0 9 1 (.slice (some ⟨g, 0, none⟩) (n + 1) cap) (n + 1) (xs ++ junk) := hext
  have H1 := own_sets (xs.drop (i)) (i + 1) w.drew (xs ++ junk) hd0 (by rw [List.length_append, hdl, hjl, hlen]; omega)
  rw [← hW1] at H1
  have hcp2 : ∀ (W : World), (∀ x, W.cell? x = W1.cell? x) → (∀ x, W.frozen? x = W1.frozen? x) → ∀ ty dc, (Builtin.copy_ #[22, 22] ty #[.slice (some ⟨g, i, none⟩) (n + 1 - i) dc, .slice (some ⟨vb, 0, none⟩) 1 1]).run Try.prog W = .ok (goInt (1 : Nat)) (W.setCells g (i) ys) := fun W hWc hWf ty dc =>
    run_copy_s W _ _ ty 9 g (i) (n + 1 - i) dc ⟨vb, 0, none⟩ 1 1 1 ys t24 hsz 1 (by simp only [Nat.min_def]; split <;> omega) (by rw [hyl])
      (fun j v hj => by
        rw [Addr.add_lit, Nat.zero_add, hWc, hW1, World.cell?_setCells_out g _ _ _ _ (fun h _ => absurd h hne)]
        exact hyc j v hj)
      (fun j hj => by rw [hWc]; obtain ⟨u, hu2, _⟩ := own_at H1 (i + j) (by rw [H1.1]; omega); exact (congrArg Option.isSome hu2).trans rfl)
      (fun j hj => by rw [hWf]; obtain ⟨u, _, hf⟩ := own_at H1 (i + j) (by rw [H1.1]; omega); exact hf) h1y
  rw [← hW1] at hcp1
  have HFIN : (W1.setCells g (i) ys).ownsRow 0 9 1 (.slice (some ⟨g, 0, none⟩) (n + 1) cap) (n + 1) (xs.take (i) ++ ys ++ xs.drop (i)) := by
    have H2 := own_sets ys (i) W1 _ H1 (by rw [H1.1, hyl]; omega)
    have e : (List.take (i) (List.take (i + 1) (xs ++ junk) ++ List.drop (i) xs ++ List.drop (i + 1 + (List.drop (i) xs).length) (xs ++ junk)) ++ ys ++ List.drop (i + ys.length) (List.take (i + 1) (xs ++ junk) ++ List.drop (i) xs ++ List.drop (i + 1 + (List.drop (i) xs).length) (xs ++ junk))) = xs.take (i) ++ ys ++ xs.drop (i) := by
      have ht : (List.take (i + 1) (xs ++ junk)).length = i + 1 := by rw [List.length_take, List.length_append, hjl, hlen]; omega
      rw [List.drop_of_length_le (i := i + 1 + _) (by rw [List.length_append, hdl, hjl, hlen]; omega), List.append_nil]
      rw [List.take_append_of_le_length (by rw [ht]; omega), List.take_take, Nat.min_eq_left (by omega), List.take_append_of_le_length (by omega : i ≤ xs.length)]
      rw [hyl]
      first
        | rw [List.drop_left' (by rw [ht]; omega)]
        | rw [List.drop_left' ht]
    rw [e] at H2
    exact H2
  have HCH : Chg (fun k => k = g) w (W1.setCells g (i) ys) := by
    rw [hW1]
    exact (Chg.of_same (S := fun k => k = g) ((Below.refl w.heap.size w).drew)).trans ((chg_sets _ _ _ _).trans (chg_sets _ _ _ _))
  have HW := Lib.hid hW1
  have HH := Lib.hid HFIN
  have HC := Lib.hid HCH
  clear hW1 HFIN HCH H1 hd0 hext hcells hxc hyc hcurg hcurs h h1x h1y hv hcap hlen hdl hpos
  go_enter Try.func101, Try.ntmps101
  go_wp2_with (simp only [hov])
  go_region_law_o (refine step_copy_runI rfl _ _ 22 22 rfl _ _ (by simp [Act.eval, Act.put]) (by simp [Act.eval, Act.put]) (hcp1 _ _ _) ?_)
  go_wp2_with (at_builtin; refine wpList_copy_runI _ rfl _ _ 22 22 rfl _ _ rfl rfl (hcp2 _ (fun _ => rfl) (fun _ => rfl) _ _) ?_)
  go_ret
  exact ⟨rfl, HH.out, HC.out⟩

set_option maxHeartbeats 4000000 in
set_option maxRecDepth 1000000 in
theorem insS_end (n : Nat) (v : Value) (xs ys : List Value) (vb : Nat) (w : World) (h : w.ownsRow 0 9 1 v n xs) (hn : n ≤ 1099511627776) (h1y : ∀ u ∈ ys, u.oneCell' = true) (hyl : ys.length = 1) (hv : w.heap[vb]? = some (.cells ys.toArray 9 (0, 0))) :
    Calls Try.prog 101 #[v, .int .i64 n, .slice (some ⟨vb, 0, none⟩) 1 1] w fun e w' => ∃ v', e = .returned v' ∧ w'.ownsRow 0 9 1 v' (n + 1) (xs ++ ys) ∧ Chg (fun k => v.ownBlock = some k) w w' ∧ (v'.ownBlock = v.ownBlock ∨ v'.ownBlock = some w.heap.size) := by
  have hu := Try.underlying9
  have t24 := Try.underlying22
  have z3 := Try.sizeOf9
  obtain ⟨i0, hi0, hz0, hzs, hzb⟩ := info_parts info9
  have hyc : ∀ (j : Nat) (v : Value), ys[j]? = some v → w.cell? ((⟨vb, 0, none⟩ : Addr).add j) = some v := fun j v hj => by rw [Addr.add_lit, Nat.zero_add, blk_cell hv]; simpa using hj
  have mixed : Try.prog.follows .mixedOrders = true := by kernel_rfl
  have H := Lib.hid h
  have HY := Lib.hid hyc
  have H1 := Lib.hid h1y
  have hf : v = .slice none 0 0 ∧ n = 0 ∨ ∃ g cap, v = .slice (some ⟨g, 0, none⟩) n cap ∧ n ≤ cap ∧ cap ≤ 9223372036854775807 := by
    rcases h.2 with h0 | ⟨g, cap, cur, e, _, _, q1, q2, _⟩
    · exact .inl h0
    · exact .inr ⟨g, cap, e, q1, q2⟩
  clear h hyc h1y hv
  rcases hf with ⟨rfl, rfl⟩ | ⟨g, cap, rfl, hq1, hq2⟩
  all_goals
    go_enter Try.func101, Try.ntmps101
    go_wp2_with (at_builtin; refine wpList_append_own_at _ rfl _ _ 22 rfl 0 9 i0 _ 1 16 t24 hi0 hz0 hzs hzb rfl (by decide) _ _ xs rfl H.out ⟨vb, 0, none⟩ 1 1 ys rfl (by rw [hyl]) HY.out H1.out (by unfold maxLen; omega) (by omega) (Nat.zero_le _) ?_; intro v1 w1 ho hg _ hat; have HO := Lib.hid ho; have HG := Lib.hid hg; have HAT := Lib.hid hat; clear ho hg hat)
    all_goals (go_ret; exact ⟨_, rfl, HO.out, Chg.grown HG.out (fun k e => e), HAT.out⟩)
set_option maxHeartbeats 4000000 in
set_option maxRecDepth 1000000 in
theorem insS_grow (g n i : Nat) (xs ys : List Value) (vb : Nat) (w : World) (h : w.ownsRow 0 9 1 (.slice (some ⟨g, 0, none⟩) n n) n xs) (hi : i < n) (hn : n ≤ 1099511627776) (h1x : ∀ u ∈ xs, u.oneCell' = true) (h1y : ∀ u ∈ ys, u.oneCell' = true) (hyl : ys.length = 1) (hv : w.heap[vb]? = some (.cells ys.toArray 9 (0, 0))) :
    Calls Try.prog 101 #[.slice (some ⟨g, 0, none⟩) n n, .int .i64 i, .slice (some ⟨vb, 0, none⟩) 1 1] w fun e w' => ∃ v', e = .returned v' ∧ w'.ownsRow 0 9 1 v' (n + 1) (xs.take (i) ++ ys ++ xs.drop (i)) ∧ Chg (fun _ => False) w w' ∧ v'.ownBlock = some w.heap.size := by
  have hu := Try.underlying9
  have t24 := Try.underlying22
  have t3 := Try.underlying3
  have z3 := Try.sizeOf9
  obtain ⟨i0, hi0, hz0, hzs, hzb⟩ := info_parts info9
  have hsz : (Try.prog.info? 9).map (·.size) = some 1 := by rw [hi0]; simp [hzs]
  have hlen : xs.length = n := by have := h.1; simpa using this
  have hdl : (xs.drop (i)).length = (n - i) * 1 := by rw [List.length_drop, hlen]; omega
  have hbw : g < w.heap.size := (h.lt g rfl).2
  have hvw : vb < w.heap.size := blk_lt hv
  have hxc : ∀ (j : Nat) (v : Value), xs[j]? = some v → w.cell? ⟨g, j, none⟩ = some v := fun j v hj => own_cell h hj
  have hyc : ∀ (j : Nat) (v : Value), ys[j]? = some v → w.cell? ⟨vb, j, none⟩ = some v := fun j v hj => by rw [blk_cell hv]; simpa using hj
  have mixed : Try.prog.follows .mixedOrders = true := by kernel_rfl
  have hz2 : ¬ ((i : Int) = (n : Int)) := by omega
  have hz3 : (n : Int) < (n : Int) + 1 := by omega
  have hkk : (n : Int) + 1 - (i : Int) = ((n + 1 - i : Nat) : Int) := by omega
  have hik : i + (n + 1 - i) = n + 1 := by omega
  have htl : (xs.take (i)).length = i * 1 := by rw [List.length_take, hlen]; omega
  have hold : (Builtin.firstCells i0.size i (.slice (some ⟨g, 0, none⟩) i n)).run Try.prog w.drew = .ok (xs.take (i)).toArray w.drew := by
    rw [hzs]
    exact run_firstCells_some w.drew 1 i ⟨g, 0, none⟩ i n (xs.take (i)) htl (fun j v hj => by
      rw [Addr.add_lit, Nat.zero_add]
      rw [List.getElem?_take] at hj
      split at hj
      · exact hxc j v hj
      · cases hj)
  obtain ⟨G, hG⟩ : ∃ G, G = grownCap w (n + 1) n 9 := ⟨_, rfl⟩
  have hGn : n + 1 ≤ G := by rw [hG]; exact grownCap_ge w _ _ _
  have hGm : G ≤ maxLen := by
    rw [hG]
    exact grownCap_le_maxLen w (n + 1) n 9 (by unfold maxLen; omega)
  have hG63 : G ≤ 9223372036854775807 := hGm
  obtain ⟨Z, hZ⟩ : ∃ Z : Nat → Array Value, Z = Builtin.zeroCells ((.string ⟨#[]⟩) : Value).cells := ⟨_, rfl⟩
  have hZs : ∀ k, (Z k).size = k * 1 := fun k => by rw [hZ, size_zeroCells]; rfl
  have hrz : ∀ ty, (Builtin.append_ #[22, 3] ty #[.slice (some ⟨g, 0, none⟩) i n, .int .i64 ((n : Int) + 1 - (i : Int))]).run Try.prog w =
      .ok (.slice (some ⟨w.heap.size, 0, none⟩) (n + 1) G) (w.drew.alloc (.cells ((xs.take (i)).toArray ++ Z (n + 1 - i) ++ Z (G - (n + 1))) 9)) := fun ty => by
    have h := Lib.run_append_grow_zeros w 22 3 ty 9 i0 _ .i64 .i64 t24 t3 hi0 hz0 (some ⟨g, 0, none⟩) i n (xs.take (i)) hold (n + 1 - i) (by omega) (by omega) (by omega) (by omega) (by rw [hzb]; omega) (by rw [hzb, hik]; exact growslice_fits (by omega) (by omega))
    rw [hik, ← hG] at h
    rw [hkk, hZ]
    exact h
  obtain ⟨ROW, hROW⟩ : ∃ ROW : Array Value, ROW = (xs.take (i)).toArray ++ Z (n + 1 - i) ++ Z (G - (n + 1)) := ⟨_, rfl⟩
  rw [← hROW] at hrz
  have hRs : ROW.size = G * 1 := by
    rw [hROW]
    simp only [Array.size_append, List.size_toArray, hZs, htl]
    omega
  obtain ⟨W1, hW1⟩ : ∃ W1, W1 = w.drew.alloc (.cells ROW 9) := ⟨_, rfl⟩
  have hzl : (Z (n + 1 - i)).toList.length = (n + 1 - i) * 1 := by rw [Array.length_toList, hZs]
  have H0 : W1.ownsRow 0 9 1 (.slice (some ⟨w.heap.size, 0, none⟩) (n + 1) G) (n + 1) (xs.take (i) ++ (Z (n + 1 - i)).toList) := by
    rw [hW1]
    refine ⟨by rw [List.length_append, htl, hzl]; omega, .inr ⟨w.heap.size, G, ROW, rfl, Nat.zero_le _, heap_alloc_new w.drew _, hGn, hGm, hRs, ?_⟩⟩
    rw [hROW]
    simp only [Array.toList_append]
    rw [List.take_append_of_le_length (by rw [List.length_append, htl, hzl]; omega), List.take_of_length_le (by rw [List.length_append, htl, hzl]; omega)]
  rw [← hW1] at hrz
  have hNc : ∀ j, j < (n + 1) * 1 → (W1.cell? ⟨w.heap.size, j, none⟩).isSome = true := fun j hj => by
    obtain ⟨u, hu2, _⟩ := own_at H0 j (by rw [H0.1]; exact hj)
    exact (congrArg Option.isSome hu2).trans rfl
  have hNf : ∀ j, W1.frozen? ⟨w.heap.size, j, none⟩ = false := fun j => own_free H0 j
  have hOb : ∀ j v, w.cell? ⟨g, j, none⟩ = some v → W1.cell? ⟨g, j, none⟩ = some v := fun j v h => by rw [hW1, World.cell?_alloc_past (w := w.drew) _ g j hbw]; exact h
  have hOv : ∀ j v, w.cell? ⟨vb, j, none⟩ = some v → W1.cell? ⟨vb, j, none⟩ = some v := fun j v h => by rw [hW1, World.cell?_alloc_past (w := w.drew) _ vb j hvw]; exact h
  have hcpA : ∀ (W : World), (∀ x, W.cell? x = W1.cell? x) → (∀ x, W.frozen? x = W1.frozen? x) → ∀ ty dc, (Builtin.copy_ #[22, 22] ty #[.slice (some ⟨w.heap.size, i, none⟩) (n + 1 - i) dc, .slice (some ⟨vb, 0, none⟩) 1 1]).run Try.prog W = .ok (goInt (1 : Nat)) (W.setCells w.heap.size (i) ys) := fun W hWc hWf ty dc =>
    run_copy_s W _ _ ty 9 w.heap.size (i) (n + 1 - i) dc ⟨vb, 0, none⟩ 1 1 1 ys t24 hsz 1 (by simp only [Nat.min_def]; split <;> omega) (by rw [hyl])
      (fun j v hj => by rw [Addr.add_lit, Nat.zero_add, hWc]; exact hOv _ v (hyc j v hj))
      (fun j hj => by rw [hWc]; exact hNc _ (by omega)) (fun j hj => by rw [hWf]; exact hNf _) h1y
  have H1 := own_sets ys (i) W1 _ H0 (by rw [H0.1, hyl]; omega)
  have e1 : List.take (i) (List.take (i) xs ++ (Z (n + 1 - i)).toList) ++ ys ++ List.drop (i + ys.length) (List.take (i) xs ++ (Z (n + 1 - i)).toList) = (List.take (i) xs ++ ys) ++ (Z (n + 1 - i)).toList.drop 1 := by
    have ea : List.take (i) (List.take (i) xs ++ (Z (n + 1 - i)).toList) = List.take (i) xs := List.take_left' (by rw [htl] <;> omega)
    have eb : List.drop (i + ys.length) (List.take (i) xs ++ (Z (n + 1 - i)).toList) = (Z (n + 1 - i)).toList.drop 1 := by
      rw [List.drop_append, List.drop_of_length_le (l := List.take (i) xs) (by rw [htl]; omega), List.nil_append, htl, hyl]
      congr 1
      omega
    rw [ea, eb]
  rw [e1] at H1
  have hcpB : ∀ (W : World), (∀ x, W.cell? x = (W1.setCells w.heap.size (i) ys).cell? x) → (∀ x, W.frozen? x = (W1.setCells w.heap.size (i) ys).frozen? x) → ∀ ty dc sc, (Builtin.copy_ #[22, 22] ty #[.slice (some ⟨w.heap.size, i + 1, none⟩) (n - i) dc, .slice (some ⟨g, i, none⟩) (n - i) sc]).run Try.prog W = .ok (goInt (n - i : Nat)) (W.setCells w.heap.size (i + 1) (xs.drop (i))) := fun W hWc hWf ty dc sc =>
    run_copy_s W _ _ ty 9 w.heap.size (i + 1) (n - i) dc ⟨g, i, none⟩ (n - i) sc 1 (xs.drop (i)) t24 hsz (n - i) (by simp only [Nat.min_def]; split <;> omega) hdl
      (fun j v hj => by
        rw [Addr.add_lit, hWc, World.cell?_setCells_out _ _ _ _ _ (fun h _ => absurd h (Nat.ne_of_lt hbw))]
        exact hOb _ v (hxc _ v (by rwa [List.getElem?_drop] at hj)))
      (fun j hj => by rw [hWc]; obtain ⟨u, hu2, _⟩ := own_at H1 (i + 1 + j) (by rw [H1.1]; omega); exact (congrArg Option.isSome hu2).trans rfl)
      (fun j hj => by rw [hWf]; obtain ⟨u, _, hf⟩ := own_at H1 (i + 1 + j) (by rw [H1.1]; omega); exact hf) (fun v hv => h1x v (List.mem_of_mem_drop hv))
  have hec : List.drop (i + 1 + (List.drop (i) xs).length) ((List.take (i) xs ++ ys) ++ (Z (n + 1 - i)).toList.drop 1) = [] := List.drop_of_length_le (by rw [List.length_append, List.length_append, htl, hyl, List.length_drop, hzl, hdl]; omega)
  have hed : List.take (i + 1) ((List.take (i) xs ++ ys) ++ (Z (n + 1 - i)).toList.drop 1) = List.take (i) xs ++ ys := List.take_left' (by rw [List.length_append, htl, hyl]; omega)
  have KF : ∀ W : World, W.ownsRow 0 9 1 (.slice (some ⟨w.heap.size, 0, none⟩) (n + 1) G) (n + 1) (xs.take (i) ++ (Z (n + 1 - i)).toList) → ((W.setCells w.heap.size (i) ys).setCells w.heap.size (i + 1) (xs.drop (i))).ownsRow 0 9 1 (.slice (some ⟨w.heap.size, 0, none⟩) (n + 1) G) (n + 1) (List.take (i) xs ++ ys ++ List.drop (i) xs) := fun W K0 => by
    have K1 := own_sets ys (i) W _ K0 (by rw [K0.1, hyl]; omega)
    rw [e1] at K1
    have K2 := own_sets (xs.drop (i)) (i + 1) _ _ K1 (by rw [K1.1, hdl]; omega)
    rw [hec, hed, List.append_nil] at K2
    exact K2
  have K0 : (w.alloc (.cells ROW 9)).drew.drew.ownsRow 0 9 1 (.slice (some ⟨w.heap.size, 0, none⟩) (n + 1) G) (n + 1) (xs.take (i) ++ (Z (n + 1 - i)).toList) := by
    rw [hW1] at H0
    exact H0
  have H2 := KF _ K0
  have HCH : Chg (fun _ => False) w (((w.alloc (.cells ROW 9)).drew.drew.setCells w.heap.size (i) ys).setCells w.heap.size (i + 1) (xs.drop (i))) := by
    have h1 : Chg (fun k => k = w.heap.size) w (((w.alloc (.cells ROW 9)).drew.drew.setCells w.heap.size (i) ys).setCells w.heap.size (i + 1) (xs.drop (i))) :=
      (Chg.of_same (S := fun k => k = w.heap.size) ((Below.refl w.heap.size w).alloc (Nat.le_refl _) _).drew.drew).trans ((chg_sets _ _ _ _).trans (chg_sets _ _ _ _))
    exact h1.mono (fun k hk e => by omega)
  have HH := Lib.hid H2
  have HC := Lib.hid HCH
  subst hW1
  have hE1 : ∀ x, ((w.alloc (.cells ROW 9)).drew).cell? x = (w.drew.alloc (.cells ROW 9)).cell? x := fun x => rfl
  have hE2 : ∀ x, ((w.alloc (.cells ROW 9)).drew).frozen? x = (w.drew.alloc (.cells ROW 9)).frozen? x := fun x => rfl
  have hF1 : ∀ x, (((w.alloc (.cells ROW 9)).drew.setCells w.heap.size (i) ys).drew).cell? x = ((w.drew.alloc (.cells ROW 9)).setCells w.heap.size (i) ys).cell? x := fun x => rfl
  have hF2 : ∀ x, (((w.alloc (.cells ROW 9)).drew.setCells w.heap.size (i) ys).drew).frozen? x = ((w.drew.alloc (.cells ROW 9)).setCells w.heap.size (i) ys).frozen? x := fun x => rfl
  have hw1 : IntKind.i64.wrap ((i : Int) + 1) = (i : Int) + 1 := by rw [IntKind.wrap_i64]; omega
  have hb1 : (0 : Int) ≤ (i : Int) + 1 := by omega
  have hin : i ≤ n := by omega
  have htn : ((i : Int) + 1).toNat = i + 1 := by omega
  have hb3 : (i : Int) ≤ (n : Int) := by omega
  have hGi : ¬ (G = i) := by omega
  have hGim : ¬ (G = i + 1) := by omega
  have hci : ¬ (n = i) := by omega
  clear hkk hik hold hROW hG hZ hZs H0 H1 H2 e1 hec hed KF K0 hNc hNf hOb hOv hzl hRs hdl htl hxc hyc h h1x h1y hv hlen HCH
  go_enter Try.func101, Try.ntmps101
  go_wp2_with (first
    | (at_builtin; refine Lib.wpList_append_run _ rfl _ _ _ _ rfl _ _ rfl rfl _ _ (hrz _) ?_)
    | (at_builtin; refine wpList_copy_runI _ rfl _ _ 22 22 rfl _ _ rfl rfl (hcpA _ hE1 hE2 _ _) ?_)
    | (at_builtin; refine wpList_copy_runI _ rfl _ _ 22 22 rfl _ _ rfl rfl (hcpB _ (fun _ => rfl) (fun _ => rfl) _ _ _) ?_))
  go_region_law_o (refine step_copy_runI rfl _ _ 22 22 rfl (.slice (some ⟨w.heap.size, i + 1, none⟩) (n - i) (G - (i + 1))) (.slice (some ⟨g, i, none⟩) (n - i) (n - i)) (by simp [Act.eval, Act.put]) (by simp [Act.eval, Act.put]) (hcpB _ hF1 hF2 3 (G - (i + 1)) (n - i)) ?_)
  go_wp2
  go_ret
  rw [drew_setCells]
  exact ⟨_, rfl, HH.out, HC.out, rfl⟩

set_option maxHeartbeats 4000000 in
set_option maxRecDepth 1000000 in
theorem insN_shift (g n cap i : Nat) (xs ys : List Value) (vb : Nat) (w : World) (h : w.ownsRow 0 25 5 (.slice (some ⟨g, 0, none⟩) n cap) n xs) (hi : i < n) (hn : n ≤ 1099511627776) (hroom : n + 1 ≤ cap) (h1x : ∀ u ∈ xs, u.oneCell' = true) (h1y : ∀ u ∈ ys, u.oneCell' = true) (hyl : ys.length = 5) (hv : w.heap[vb]? = some (.cells ys.toArray 25 (0, 0))) (hne : vb ≠ g) :
    Calls Try.prog 102 #[.slice (some ⟨g, 0, none⟩) n cap, .int .i64 i, .slice (some ⟨vb, 0, none⟩) 1 1] w fun e w' => e = .returned (.slice (some ⟨g, 0, none⟩) (n + 1) cap) ∧ w'.ownsRow 0 25 5 (.slice (some ⟨g, 0, none⟩) (n + 1) cap) (n + 1) (xs.take (i * 5) ++ ys ++ xs.drop (i * 5)) ∧ Chg (fun k => k = g) w w' := by
  have hu := Try.underlying25
  have t24 := Try.underlying23
  obtain ⟨i0, hi0, hz0, hzs, hzb⟩ := info_parts info25
  have hsz : (Try.prog.info? 25).map (·.size) = some 5 := by rw [hi0]; simp [hzs]
  have hlen : xs.length = n * 5 := by have := h.1; simpa using this
  have hcap : cap ≤ maxLen := by
    obtain ⟨_, h2⟩ := h
    rcases h2 with ⟨h0, _⟩ | ⟨g', cap', cur, hv, _, _, q1, q2, _⟩
    · cases h0
    · injection hv with _ _ q3
      exact q3 ▸ q2
  have hcap2 : cap ≤ 9223372036854775807 := hcap
  obtain ⟨junk, hjl, hext⟩ := own_extend h hroom
  have hdl : (xs.drop (i * 5)).length = (n - i) * 5 := by rw [List.length_drop, hlen]; omega
  have hpos : 0 < (n + 1) * 5 := by omega
  have hcells := fun (j : Nat) (hj : j < (n + 1) * 5) => own_at hext j (by rw [hext.1]; exact hj)
  have hxc : ∀ (j : Nat) (v : Value), xs[j]? = some v → w.cell? ⟨g, j, none⟩ = some v := fun j v hj => own_cell h hj
  have hyc : ∀ (j : Nat) (v : Value), ys[j]? = some v → w.cell? ⟨vb, j, none⟩ = some v := fun j v hj => by rw [blk_cell hv]; simpa using hj
  obtain ⟨curg, hcurg, hcurs⟩ : ∃ cur : Array Value, w.heap[g]? = some (.cells cur 25 (0, 0)) ∧ cur.size ≠ 0 := by
    obtain ⟨_, h2⟩ := h
    rcases h2 with ⟨h0, _⟩ | ⟨g', cap', cur, hv, _, hg, q1, q2, q3, _⟩
    · cases h0
    · injection hv with h1 h2 h3
      injection h1 with h1
      injection h1 with h1
      subst h1; subst h3
      exact ⟨cur, hg, by rw [q3]; have : 0 < cap := by omega
                         omega⟩
  have hov : ∀ lb cb, (callFunc 134 #[.slice (some ⟨vb, 0, none⟩) 1 1, .slice (some ⟨g, (i + 1) * 5, none⟩) lb cb]).run Try.prog w = .ok (.value (.bool false)) w := fun lb cb => by
    rw [run_callFunc_extern Try.func134 (by kernel_rfl) (by kernel_rfl) (by kernel_rfl) (e := Extern.SlicesOverlaps.overlaps #[23, 23] #[4]) (by kernel_rfl),
      Lib.run_overlaps_apart w 23 4 25 t24 5 Try.sizeOf25 ⟨vb, 0, none⟩ ⟨g, (i + 1) * 5, none⟩ 1 1 lb cb hne 25 25 5 curg.size (by simp [World.shape?, hv, hyl]) (by simp [World.shape?, hcurg]) hcurs (by simp [World.frozen?, hv]) (by simp [World.frozen?, hv])]
    rfl
  have mixed : Try.prog.follows .mixedOrders = true := by kernel_rfl
  have hz2 : ¬ ((i : Int) = (n : Int)) := by omega
  have hw1 : IntKind.i64.wrap ((i : Int) + 1) = (i : Int) + 1 := by rw [IntKind.wrap_i64]; omega
  have hb1 : (0 : Int) ≤ (i : Int) + 1 := by omega
  have hin : i ≤ n := by omega
  have htn : ((i : Int) + 1).toNat = i + 1 := by omega
  have hb2 : ¬ (cap = i + 1) := by omega
  have hb3 : (i : Int) ≤ (n : Int) + 1 := by omega
  have hb4 : ¬ (cap = i) := by omega
  have hcp1 : ∀ ty dc sc, (Builtin.copy_ #[23, 23] ty #[.slice (some ⟨g, (i + 1) * 5, none⟩) (n - i) dc, .slice (some ⟨g, i * 5, none⟩) (n + 1 - i) sc]).run Try.prog w.drew = .ok (goInt (n - i : Nat)) (w.drew.setCells g ((i + 1) * 5) (xs.drop (i * 5))) := fun ty dc sc =>
    run_copy_s w.drew _ _ ty 25 g ((i + 1) * 5) (n - i) dc ⟨g, i * 5, none⟩ (n + 1 - i) sc 5 (xs.drop (i * 5)) t24 hsz (n - i) (by simp only [Nat.min_def]; split <;> omega) hdl
      (fun j v hj => by rw [Addr.add_lit]; exact hxc _ v (by rwa [List.getElem?_drop] at hj))
      (fun j hj => by obtain ⟨u, hu2, _⟩ := hcells ((i + 1) * 5 + j) (by rw [hdl] at hj; omega); exact (congrArg Option.isSome hu2).trans rfl)
      (fun j hj => by obtain ⟨u, _, hf⟩ := hcells ((i + 1) * 5 + j) (by rw [hdl] at hj; omega); exact hf) (fun v hv => h1x v (List.mem_of_mem_drop hv))
  obtain ⟨W1, hW1⟩ : ∃ W1, W1 = w.drew.setCells g ((i + 1) * 5) (xs.drop (i * 5)) := ⟨_, rfl⟩
  have hd0 : w.drew.ownsRow 0 25 5 (.slice (some ⟨g, 0, none⟩) (n + 1) cap) (n + 1) (xs ++ junk) := hext
  have H1 := own_sets (xs.drop (i * 5)) ((i + 1) * 5) w.drew (xs ++ junk) hd0 (by rw [List.length_append, hdl, hjl, hlen]; omega)
  rw [← hW1] at H1
  have hcp2 : ∀ (W : World), (∀ x, W.cell? x = W1.cell? x) → (∀ x, W.frozen? x = W1.frozen? x) → ∀ ty dc, (Builtin.copy_ #[23, 23] ty #[.slice (some ⟨g, i * 5, none⟩) (n + 1 - i) dc, .slice (some ⟨vb, 0, none⟩) 1 1]).run Try.prog W = .ok (goInt (1 : Nat)) (W.setCells g (i * 5) ys) := fun W hWc hWf ty dc =>
    run_copy_s W _ _ ty 25 g (i * 5) (n + 1 - i) dc ⟨vb, 0, none⟩ 1 1 5 ys t24 hsz 1 (by simp only [Nat.min_def]; split <;> omega) (by rw [hyl])
      (fun j v hj => by
        rw [Addr.add_lit, Nat.zero_add, hWc, hW1, World.cell?_setCells_out g _ _ _ _ (fun h _ => absurd h hne)]
        exact hyc j v hj)
      (fun j hj => by rw [hWc]; obtain ⟨u, hu2, _⟩ := own_at H1 (i * 5 + j) (by rw [H1.1]; omega); exact (congrArg Option.isSome hu2).trans rfl)
      (fun j hj => by rw [hWf]; obtain ⟨u, _, hf⟩ := own_at H1 (i * 5 + j) (by rw [H1.1]; omega); exact hf) h1y
  rw [← hW1] at hcp1
  have HFIN : (W1.setCells g (i * 5) ys).ownsRow 0 25 5 (.slice (some ⟨g, 0, none⟩) (n + 1) cap) (n + 1) (xs.take (i * 5) ++ ys ++ xs.drop (i * 5)) := by
    have H2 := own_sets ys (i * 5) W1 _ H1 (by rw [H1.1, hyl]; omega)
    have e : (List.take (i * 5) (List.take ((i + 1) * 5) (xs ++ junk) ++ List.drop (i * 5) xs ++ List.drop ((i + 1) * 5 + (List.drop (i * 5) xs).length) (xs ++ junk)) ++ ys ++ List.drop (i * 5 + ys.length) (List.take ((i + 1) * 5) (xs ++ junk) ++ List.drop (i * 5) xs ++ List.drop ((i + 1) * 5 + (List.drop (i * 5) xs).length) (xs ++ junk))) = xs.take (i * 5) ++ ys ++ xs.drop (i * 5) := by
      have ht : (List.take ((i + 1) * 5) (xs ++ junk)).length = (i + 1) * 5 := by rw [List.length_take, List.length_append, hjl, hlen]; omega
      rw [List.drop_of_length_le (i := (i + 1) * 5 + _) (by rw [List.length_append, hdl, hjl, hlen]; omega), List.append_nil]
      rw [List.take_append_of_le_length (by rw [ht]; omega), List.take_take, Nat.min_eq_left (by omega), List.take_append_of_le_length (by omega : i * 5 ≤ xs.length)]
      rw [hyl]
      first
        | rw [List.drop_left' (by rw [ht]; omega)]
        | rw [List.drop_left' ht]
    rw [e] at H2
    exact H2
  have HCH : Chg (fun k => k = g) w (W1.setCells g (i * 5) ys) := by
    rw [hW1]
    exact (Chg.of_same (S := fun k => k = g) ((Below.refl w.heap.size w).drew)).trans ((chg_sets _ _ _ _).trans (chg_sets _ _ _ _))
  have HW := Lib.hid hW1
  have HH := Lib.hid HFIN
  have HC := Lib.hid HCH
  clear hW1 HFIN HCH H1 hd0 hext hcells hxc hyc hcurg hcurs h h1x h1y hv hcap hlen hdl hpos
  go_enter Try.func102, Try.ntmps102
  go_wp2_with (simp only [hov])
  go_region_law_o (refine step_copy_runI rfl _ _ 23 23 rfl _ _ (by simp [Act.eval, Act.put]) (by simp [Act.eval, Act.put]) (hcp1 _ _ _) ?_)
  go_wp2_with (at_builtin; refine wpList_copy_runI _ rfl _ _ 23 23 rfl _ _ rfl rfl (hcp2 _ (fun _ => rfl) (fun _ => rfl) _ _) ?_)
  go_ret
  exact ⟨rfl, HH.out, HC.out⟩

set_option maxHeartbeats 4000000 in
set_option maxRecDepth 1000000 in
theorem insN_end (n : Nat) (v : Value) (xs ys : List Value) (vb : Nat) (w : World) (h : w.ownsRow 0 25 5 v n xs) (hn : n ≤ 1099511627776) (h1y : ∀ u ∈ ys, u.oneCell' = true) (hyl : ys.length = 5) (hv : w.heap[vb]? = some (.cells ys.toArray 25 (0, 0))) :
    Calls Try.prog 102 #[v, .int .i64 n, .slice (some ⟨vb, 0, none⟩) 1 1] w fun e w' => ∃ v', e = .returned v' ∧ w'.ownsRow 0 25 5 v' (n + 1) (xs ++ ys) ∧ Chg (fun k => v.ownBlock = some k) w w' ∧ (v'.ownBlock = v.ownBlock ∨ v'.ownBlock = some w.heap.size) := by
  have hu := Try.underlying25
  have t24 := Try.underlying23
  have z3 := Try.sizeOf25
  obtain ⟨i0, hi0, hz0, hzs, hzb⟩ := info_parts info25
  have hyc : ∀ (j : Nat) (v : Value), ys[j]? = some v → w.cell? ((⟨vb, 0, none⟩ : Addr).add j) = some v := fun j v hj => by rw [Addr.add_lit, Nat.zero_add, blk_cell hv]; simpa using hj
  have mixed : Try.prog.follows .mixedOrders = true := by kernel_rfl
  have H := Lib.hid h
  have HY := Lib.hid hyc
  have H1 := Lib.hid h1y
  have hf : v = .slice none 0 0 ∧ n = 0 ∨ ∃ g cap, v = .slice (some ⟨g, 0, none⟩) n cap ∧ n ≤ cap ∧ cap ≤ 9223372036854775807 := by
    rcases h.2 with h0 | ⟨g, cap, cur, e, _, _, q1, q2, _⟩
    · exact .inl h0
    · exact .inr ⟨g, cap, e, q1, q2⟩
  clear h hyc h1y hv
  rcases hf with ⟨rfl, rfl⟩ | ⟨g, cap, rfl, hq1, hq2⟩
  all_goals
    go_enter Try.func102, Try.ntmps102
    go_wp2_with (at_builtin; refine wpList_append_own_at _ rfl _ _ 23 rfl 0 25 i0 _ 5 80 t24 hi0 hz0 hzs hzb rfl (by decide) _ _ xs rfl H.out ⟨vb, 0, none⟩ 1 1 ys rfl (by rw [hyl]) HY.out H1.out (by unfold maxLen; omega) (by omega) (Nat.zero_le _) ?_; intro v1 w1 ho hg _ hat; have HO := Lib.hid ho; have HG := Lib.hid hg; have HAT := Lib.hid hat; clear ho hg hat)
    all_goals (go_ret; exact ⟨_, rfl, HO.out, Chg.grown HG.out (fun k e => e), HAT.out⟩)
set_option maxHeartbeats 4000000 in
set_option maxRecDepth 1000000 in
theorem insN_grow (g n i : Nat) (xs ys : List Value) (vb : Nat) (w : World) (h : w.ownsRow 0 25 5 (.slice (some ⟨g, 0, none⟩) n n) n xs) (hi : i < n) (hn : n ≤ 1099511627776) (h1x : ∀ u ∈ xs, u.oneCell' = true) (h1y : ∀ u ∈ ys, u.oneCell' = true) (hyl : ys.length = 5) (hv : w.heap[vb]? = some (.cells ys.toArray 25 (0, 0))) :
    Calls Try.prog 102 #[.slice (some ⟨g, 0, none⟩) n n, .int .i64 i, .slice (some ⟨vb, 0, none⟩) 1 1] w fun e w' => ∃ v', e = .returned v' ∧ w'.ownsRow 0 25 5 v' (n + 1) (xs.take (i * 5) ++ ys ++ xs.drop (i * 5)) ∧ Chg (fun _ => False) w w' ∧ v'.ownBlock = some w.heap.size := by
  have hu := Try.underlying25
  have t24 := Try.underlying23
  have t3 := Try.underlying3
  have z3 := Try.sizeOf25
  obtain ⟨i0, hi0, hz0, hzs, hzb⟩ := info_parts info25
  have hsz : (Try.prog.info? 25).map (·.size) = some 5 := by rw [hi0]; simp [hzs]
  have hlen : xs.length = n * 5 := by have := h.1; simpa using this
  have hdl : (xs.drop (i * 5)).length = (n - i) * 5 := by rw [List.length_drop, hlen]; omega
  have hbw : g < w.heap.size := (h.lt g rfl).2
  have hvw : vb < w.heap.size := blk_lt hv
  have hxc : ∀ (j : Nat) (v : Value), xs[j]? = some v → w.cell? ⟨g, j, none⟩ = some v := fun j v hj => own_cell h hj
  have hyc : ∀ (j : Nat) (v : Value), ys[j]? = some v → w.cell? ⟨vb, j, none⟩ = some v := fun j v hj => by rw [blk_cell hv]; simpa using hj
  have mixed : Try.prog.follows .mixedOrders = true := by kernel_rfl
  have hz2 : ¬ ((i : Int) = (n : Int)) := by omega
  have hz3 : (n : Int) < (n : Int) + 1 := by omega
  have hkk : (n : Int) + 1 - (i : Int) = ((n + 1 - i : Nat) : Int) := by omega
  have hik : i + (n + 1 - i) = n + 1 := by omega
  have htl : (xs.take (i * 5)).length = i * 5 := by rw [List.length_take, hlen]; omega
  have hold : (Builtin.firstCells i0.size i (.slice (some ⟨g, 0, none⟩) i n)).run Try.prog w.drew = .ok (xs.take (i * 5)).toArray w.drew := by
    rw [hzs]
    exact run_firstCells_some w.drew 5 i ⟨g, 0, none⟩ i n (xs.take (i * 5)) htl (fun j v hj => by
      rw [Addr.add_lit, Nat.zero_add]
      rw [List.getElem?_take] at hj
      split at hj
      · exact hxc j v hj
      · cases hj)
  obtain ⟨G, hG⟩ : ∃ G, G = grownCap w (n + 1) n 25 := ⟨_, rfl⟩
  have hGn : n + 1 ≤ G := by rw [hG]; exact grownCap_ge w _ _ _
  have hGm : G ≤ maxLen := by
    rw [hG]
    exact grownCap_le_maxLen w (n + 1) n 25 (by unfold maxLen; omega)
  have hG63 : G ≤ 9223372036854775807 := hGm
  obtain ⟨Z, hZ⟩ : ∃ Z : Nat → Array Value, Z = Builtin.zeroCells ((.agg #[(.int .i64 0), (.int .i64 0), (.string ⟨#[]⟩), (.slice none 0 0), (.slice none 0 0)]) : Value).cells := ⟨_, rfl⟩
  have hZs : ∀ k, (Z k).size = k * 5 := fun k => by rw [hZ, size_zeroCells]; rfl
  have hrz : ∀ ty, (Builtin.append_ #[23, 3] ty #[.slice (some ⟨g, 0, none⟩) i n, .int .i64 ((n : Int) + 1 - (i : Int))]).run Try.prog w =
      .ok (.slice (some ⟨w.heap.size, 0, none⟩) (n + 1) G) (w.drew.alloc (.cells ((xs.take (i * 5)).toArray ++ Z (n + 1 - i) ++ Z (G - (n + 1))) 25)) := fun ty => by
    have h := Lib.run_append_grow_zeros w 23 3 ty 25 i0 _ .i64 .i64 t24 t3 hi0 hz0 (some ⟨g, 0, none⟩) i n (xs.take (i * 5)) hold (n + 1 - i) (by omega) (by omega) (by omega) (by omega) (by rw [hzb]; omega) (by rw [hzb, hik]; exact growslice_fits (by omega) (by omega))
    rw [hik, ← hG] at h
    rw [hkk, hZ]
    exact h
  obtain ⟨ROW, hROW⟩ : ∃ ROW : Array Value, ROW = (xs.take (i * 5)).toArray ++ Z (n + 1 - i) ++ Z (G - (n + 1)) := ⟨_, rfl⟩
  rw [← hROW] at hrz
  have hRs : ROW.size = G * 5 := by
    rw [hROW]
    simp only [Array.size_append, List.size_toArray, hZs, htl]
    omega
  obtain ⟨W1, hW1⟩ : ∃ W1, W1 = w.drew.alloc (.cells ROW 25) := ⟨_, rfl⟩
  have hzl : (Z (n + 1 - i)).toList.length = (n + 1 - i) * 5 := by rw [Array.length_toList, hZs]
  have H0 : W1.ownsRow 0 25 5 (.slice (some ⟨w.heap.size, 0, none⟩) (n + 1) G) (n + 1) (xs.take (i * 5) ++ (Z (n + 1 - i)).toList) := by
    rw [hW1]
    refine ⟨by rw [List.length_append, htl, hzl]; omega, .inr ⟨w.heap.size, G, ROW, rfl, Nat.zero_le _, heap_alloc_new w.drew _, hGn, hGm, hRs, ?_⟩⟩
    rw [hROW]
    simp only [Array.toList_append]
    rw [List.take_append_of_le_length (by rw [List.length_append, htl, hzl]; omega), List.take_of_length_le (by rw [List.length_append, htl, hzl]; omega)]
  rw [← hW1] at hrz
  have hNc : ∀ j, j < (n + 1) * 5 → (W1.cell? ⟨w.heap.size, j, none⟩).isSome = true := fun j hj => by
    obtain ⟨u, hu2, _⟩ := own_at H0 j (by rw [H0.1]; exact hj)
    exact (congrArg Option.isSome hu2).trans rfl
  have hNf : ∀ j, W1.frozen? ⟨w.heap.size, j, none⟩ = false := fun j => own_free H0 j
  have hOb : ∀ j v, w.cell? ⟨g, j, none⟩ = some v → W1.cell? ⟨g, j, none⟩ = some v := fun j v h => by rw [hW1, World.cell?_alloc_past (w := w.drew) _ g j hbw]; exact h
  have hOv : ∀ j v, w.cell? ⟨vb, j, none⟩ = some v → W1.cell? ⟨vb, j, none⟩ = some v := fun j v h => by rw [hW1, World.cell?_alloc_past (w := w.drew) _ vb j hvw]; exact h
  have hcpA : ∀ (W : World), (∀ x, W.cell? x = W1.cell? x) → (∀ x, W.frozen? x = W1.frozen? x) → ∀ ty dc, (Builtin.copy_ #[23, 23] ty #[.slice (some ⟨w.heap.size, i * 5, none⟩) (n + 1 - i) dc, .slice (some ⟨vb, 0, none⟩) 1 1]).run Try.prog W = .ok (goInt (1 : Nat)) (W.setCells w.heap.size (i * 5) ys) := fun W hWc hWf ty dc =>
    run_copy_s W _ _ ty 25 w.heap.size (i * 5) (n + 1 - i) dc ⟨vb, 0, none⟩ 1 1 5 ys t24 hsz 1 (by simp only [Nat.min_def]; split <;> omega) (by rw [hyl])
      (fun j v hj => by rw [Addr.add_lit, Nat.zero_add, hWc]; exact hOv _ v (hyc j v hj))
      (fun j hj => by rw [hWc]; exact hNc _ (by omega)) (fun j hj => by rw [hWf]; exact hNf _) h1y
  have H1 := own_sets ys (i * 5) W1 _ H0 (by rw [H0.1, hyl]; omega)
  have e1 : List.take (i * 5) (List.take (i * 5) xs ++ (Z (n + 1 - i)).toList) ++ ys ++ List.drop (i * 5 + ys.length) (List.take (i * 5) xs ++ (Z (n + 1 - i)).toList) = (List.take (i * 5) xs ++ ys) ++ (Z (n + 1 - i)).toList.drop 5 := by
    have ea : List.take (i * 5) (List.take (i * 5) xs ++ (Z (n + 1 - i)).toList) = List.take (i * 5) xs := List.take_left' (by rw [htl] <;> omega)
    have eb : List.drop (i * 5 + ys.length) (List.take (i * 5) xs ++ (Z (n + 1 - i)).toList) = (Z (n + 1 - i)).toList.drop 5 := by
      rw [List.drop_append, List.drop_of_length_le (l := List.take (i * 5) xs) (by rw [htl]; omega), List.nil_append, htl, hyl]
      congr 1
      omega
    rw [ea, eb]
  rw [e1] at H1
  have hcpB : ∀ (W : World), (∀ x, W.cell? x = (W1.setCells w.heap.size (i * 5) ys).cell? x) → (∀ x, W.frozen? x = (W1.setCells w.heap.size (i * 5) ys).frozen? x) → ∀ ty dc sc, (Builtin.copy_ #[23, 23] ty #[.slice (some ⟨w.heap.size, (i + 1) * 5, none⟩) (n - i) dc, .slice (some ⟨g, i * 5, none⟩) (n - i) sc]).run Try.prog W = .ok (goInt (n - i : Nat)) (W.setCells w.heap.size ((i + 1) * 5) (xs.drop (i * 5))) := fun W hWc hWf ty dc sc =>
    run_copy_s W _ _ ty 25 w.heap.size ((i + 1) * 5) (n - i) dc ⟨g, i * 5, none⟩ (n - i) sc 5 (xs.drop (i * 5)) t24 hsz (n - i) (by simp only [Nat.min_def]; split <;> omega) hdl
      (fun j v hj => by
        rw [Addr.add_lit, hWc, World.cell?_setCells_out _ _ _ _ _ (fun h _ => absurd h (Nat.ne_of_lt hbw))]
        exact hOb _ v (hxc _ v (by rwa [List.getElem?_drop] at hj)))
      (fun j hj => by rw [hWc]; obtain ⟨u, hu2, _⟩ := own_at H1 ((i + 1) * 5 + j) (by rw [H1.1]; omega); exact (congrArg Option.isSome hu2).trans rfl)
      (fun j hj => by rw [hWf]; obtain ⟨u, _, hf⟩ := own_at H1 ((i + 1) * 5 + j) (by rw [H1.1]; omega); exact hf) (fun v hv => h1x v (List.mem_of_mem_drop hv))
  have hec : List.drop ((i + 1) * 5 + (List.drop (i * 5) xs).length) ((List.take (i * 5) xs ++ ys) ++ (Z (n + 1 - i)).toList.drop 5) = [] := List.drop_of_length_le (by rw [List.length_append, List.length_append, htl, hyl, List.length_drop, hzl, hdl]; omega)
  have hed : List.take ((i + 1) * 5) ((List.take (i * 5) xs ++ ys) ++ (Z (n + 1 - i)).toList.drop 5) = List.take (i * 5) xs ++ ys := List.take_left' (by rw [List.length_append, htl, hyl]; omega)
  have KF : ∀ W : World, W.ownsRow 0 25 5 (.slice (some ⟨w.heap.size, 0, none⟩) (n + 1) G) (n + 1) (xs.take (i * 5) ++ (Z (n + 1 - i)).toList) → ((W.setCells w.heap.size (i * 5) ys).setCells w.heap.size ((i + 1) * 5) (xs.drop (i * 5))).ownsRow 0 25 5 (.slice (some ⟨w.heap.size, 0, none⟩) (n + 1) G) (n + 1) (List.take (i * 5) xs ++ ys ++ List.drop (i * 5) xs) := fun W K0 => by
    have K1 := own_sets ys (i * 5) W _ K0 (by rw [K0.1, hyl]; omega)
    rw [e1] at K1
    have K2 := own_sets (xs.drop (i * 5)) ((i + 1) * 5) _ _ K1 (by rw [K1.1, hdl]; omega)
    rw [hec, hed, List.append_nil] at K2
    exact K2
  have K0 : (w.alloc (.cells ROW 25)).drew.drew.ownsRow 0 25 5 (.slice (some ⟨w.heap.size, 0, none⟩) (n + 1) G) (n + 1) (xs.take (i * 5) ++ (Z (n + 1 - i)).toList) := by
    rw [hW1] at H0
    exact H0
  have H2 := KF _ K0
  have HCH : Chg (fun _ => False) w (((w.alloc (.cells ROW 25)).drew.drew.setCells w.heap.size (i * 5) ys).setCells w.heap.size ((i + 1) * 5) (xs.drop (i * 5))) := by
    have h1 : Chg (fun k => k = w.heap.size) w (((w.alloc (.cells ROW 25)).drew.drew.setCells w.heap.size (i * 5) ys).setCells w.heap.size ((i + 1) * 5) (xs.drop (i * 5))) :=
      (Chg.of_same (S := fun k => k = w.heap.size) ((Below.refl w.heap.size w).alloc (Nat.le_refl _) _).drew.drew).trans ((chg_sets _ _ _ _).trans (chg_sets _ _ _ _))
    exact h1.mono (fun k hk e => by omega)
  have HH := Lib.hid H2
  have HC := Lib.hid HCH
  subst hW1
  have hE1 : ∀ x, ((w.alloc (.cells ROW 25)).drew).cell? x = (w.drew.alloc (.cells ROW 25)).cell? x := fun x => rfl
  have hE2 : ∀ x, ((w.alloc (.cells ROW 25)).drew).frozen? x = (w.drew.alloc (.cells ROW 25)).frozen? x := fun x => rfl
  have hF1 : ∀ x, (((w.alloc (.cells ROW 25)).drew.setCells w.heap.size (i * 5) ys).drew).cell? x = ((w.drew.alloc (.cells ROW 25)).setCells w.heap.size (i * 5) ys).cell? x := fun x => rfl
  have hF2 : ∀ x, (((w.alloc (.cells ROW 25)).drew.setCells w.heap.size (i * 5) ys).drew).frozen? x = ((w.drew.alloc (.cells ROW 25)).setCells w.heap.size (i * 5) ys).frozen? x := fun x => rfl
  have hw1 : IntKind.i64.wrap ((i : Int) + 1) = (i : Int) + 1 := by rw [IntKind.wrap_i64]; omega
  have hb1 : (0 : Int) ≤ (i : Int) + 1 := by omega
  have hin : i ≤ n := by omega
  have htn : ((i : Int) + 1).toNat = i + 1 := by omega
  have hb3 : (i : Int) ≤ (n : Int) := by omega
  have hGi : ¬ (G = i) := by omega
  have hGim : ¬ (G = i + 1) := by omega
  have hci : ¬ (n = i) := by omega
  clear hkk hik hold hROW hG hZ hZs H0 H1 H2 e1 hec hed KF K0 hNc hNf hOb hOv hzl hRs hdl htl hxc hyc h h1x h1y hv hlen HCH
  go_enter Try.func102, Try.ntmps102
  go_wp2_with (first
    | (at_builtin; refine Lib.wpList_append_run _ rfl _ _ _ _ rfl _ _ rfl rfl _ _ (hrz _) ?_)
    | (at_builtin; refine wpList_copy_runI _ rfl _ _ 23 23 rfl _ _ rfl rfl (hcpA _ hE1 hE2 _ _) ?_)
    | (at_builtin; refine wpList_copy_runI _ rfl _ _ 23 23 rfl _ _ rfl rfl (hcpB _ (fun _ => rfl) (fun _ => rfl) _ _ _) ?_))
  go_region_law_o (refine step_copy_runI rfl _ _ 23 23 rfl (.slice (some ⟨w.heap.size, (i + 1) * 5, none⟩) (n - i) (G - (i + 1))) (.slice (some ⟨g, i * 5, none⟩) (n - i) (n - i)) (by simp [Act.eval, Act.put]) (by simp [Act.eval, Act.put]) (hcpB _ hF1 hF2 3 (G - (i + 1)) (n - i)) ?_)
  go_wp2
  go_ret
  rw [drew_setCells]
  exact ⟨_, rfl, HH.out, HC.out, rfl⟩
end Go.Proofs.Ytnbnpgjgibcmpaa.H
