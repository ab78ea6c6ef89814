/- What the steps of a law that marks do: sizes, trees that come in, equality, marks. -/
import Derived.Test.YtdlhidjphaaklaaAid
import Derived.Test.YtdlhidjphaaklaaBase
import Derived.Test.YtdlhidjphaaklaaCnt
import Derived.Test.YtdlhidjphaaklaaCopy
import Derived.Test.YtdlhidjphaaklaaEv
import Derived.Test.YtdlhidjphaaklaaLists
import Derived.Test.YtdlhidjphaaklaaMake
import Derived.Test.YtdlhidjphaaklaaMark
import Derived.Test.YtdlhidjphaaklaaOwn
import Derived.Test.YtdlhidjphaaklaaP_laws_eqNode
import Derived.Test.YtdlhidjphaaklaaP_laws_szStringS
import Derived.Test.YtdlhidjphaaklaaTree
import Derived.Test.YtdlhidjphaaklaaTreeIn
namespace Go.Proofs.Ytdlhidjphaaklaa.H
open Go.RowKit Go.Proofs.Ytdlhidjphaaklaa.P Go.Proofs.YtdlhidjphaaklaaW.PrintWords Go.Proofs.Ytdlhidjphaaklaa.M Go.Proofs.Ytdlhidjphaaklaa.O
set_option linter.unusedVariables false

theorem rnd_cntK (x : S33) : rnd x + 1 ≤ 2 * cntK x := by
  refine tree_ind (P := fun x => rnd x + 1 ≤ 2 * cntK x) (fun x ih => ?_) x
  rw [rnd_eq, cntK_eq]
  have : ∀ l : List S33, (∀ y ∈ l, rnd y + 1 ≤ 2 * cntK y) → (l.map rnd).sum + l.length ≤ 2 * (l.map cntK).sum := by
    intro l
    induction l with
    | nil => intro _; simp
    | cons y ys ihl =>
      intro h
      have h1 := h y (by simp)
      have h2 := ihl (fun z hz => h z (by simp [hz]))
      simp only [List.map_cons, List.sum_cons, List.length_cons]
      omega
  have := this x.f4 ih
  omega
theorem rnd_cnt (x : S33) : rnd x ≤ 2 * cntTop x + 5 := by
  have h := rnd_cntK x
  rw [cntK_eq] at h
  unfold cntTop
  omega
theorem eq_ev (x : S33) (h : cntTop x ≤ 549755813880) : Ev (fun k => laws_eqNode.f k x.f0 x.f1 x.f2 x.f3 x.f4 x.f0 x.f1 x.f2 x.f3 x.f4) true := by
  have h1 := rnd_cnt x
  have := Ev.past (fun k hk => eqNode_eq (rnd x) x x (Nat.le_refl _) (by omega) k hk)
  rwa [dec_true rfl] at this
/-- Two trees that are the same are told to be. -/
theorem eqN_calls (x : S33) (h : cntTop x ≤ 549755813880) {w : World} {v3 v4 u3 u4 : Value} (h1 : Seen w v3 v4 x) (h2 : Seen w u3 u4 x) :
    Calls Try.prog 10 #[.agg #[.int .i64 x.f0, .int .i64 x.f1, .string x.f2, v3, v4], .agg #[.int .i64 x.f0, .int .i64 x.f1, .string x.f2, u3, u4]] w fun e w' => e = .returned (.bool true) ∧ Below w.heap.size w w' := by
  obtain ⟨A3, c3, A4, c4, rfl, rfl, g3, l3, g4, l4⟩ := h1
  obtain ⟨B3, d3, B4, d4, rfl, rfl, p3, q3, p4, q4⟩ := h2
  obtain ⟨k, hk⟩ := (eq_ev x h).rounds
  exact laws_eqNode.calls k _ _ _ _ _ _ _ _ _ _ _ _ _ _ _ _ _ _ true w g3 l3 g4 l4 p3 q3 p4 q4 hk
theorem eqR_ev (l : List S33) (h : (l.map cntK).sum ≤ 549755813880) : ∃ k, laws_eqNodeS.f k l l = some true := by
  obtain ⟨k, hk⟩ := (eq_ev ⟨0, 0, ⟨#[]⟩, [], l⟩ (by unfold cntTop; simpa using h)).rounds
  cases k with
  | zero => simp [laws_eqNode.f] at hk
  | succ k =>
    refine ⟨k, ?_⟩
    simp only [laws_eqNode.f, if_true] at hk
    rw [Option.bind_eq_some_iff] at hk
    obtain ⟨t, _, h2⟩ := hk
    cases t with
    | false => simp at h2
    | true =>
      simp only [if_true] at h2
      rw [Option.bind_eq_some_iff] at h2
      obtain ⟨u, h3, h4⟩ := h2
      cases u with
      | false => simp at h4
      | true => exact h3
/-- .. and two rows. -/
theorem eqR_calls (l : List S33) (h : (l.map cntK).sum ≤ 549755813880) {w : World} {A B : Option Addr} {c d : Nat} (h1 : k33.C w A l.length l) (l1 : l.length ≤ c) (h2 : k33.C w B l.length l) (l2 : l.length ≤ d) :
    Calls Try.prog 34 #[.slice A l.length c, .slice B l.length d] w fun e w' => e = .returned (.bool true) ∧ Below w.heap.size w w' := by
  obtain ⟨k, hk⟩ := eqR_ev l h
  exact laws_eqNodeS.calls k _ _ _ _ _ _ true w h1 l1 h2 l2 hk
theorem markTop_calls (x : S33) (n : Nat) (hn : cntTop x = n) {v3 v4 : Value} {fss : List (List Nat)} {w : World} (h : Top w v3 v4 x fss) (hl : n ≤ 549755813880) :
    Calls Try.prog 14 #[.agg #[.int .i64 x.f0, .int .i64 x.f1, .string x.f2, v3, v4], .int .i64 1] w fun e w' => ∃ x' : S33, e = .returned (.int .i64 (1 + (n : Nat))) ∧ cntTop x' = n ∧ MkTop x' 1 ∧ Top w' v3 v4 x' fss ∧ Chg (fun k => k ∈ topFp v3 v4 fss ∨ w.heap.size ≤ k) w w' :=
  (mark_calls x v3 v4 fss 1 w h (by decide) (by omega)).mono fun e w' ⟨x', he, _, _, _, h1, h2, h3, h4⟩ => ⟨x', by rw [← hn]; exact he, h1.trans hn, h2, h3, h4⟩
theorem markRow_calls (l : List S33) (n : Nat) (hn : (l.map cntK).sum = n) {v : Value} {fss : List (List Nat)} {w : World} (h : ORow w v l fss) (hd : (v.ownBlock.toList ++ fss.flatten).Nodup) (hl : n ≤ 549755813880) (k0 : Int) (h0 : 0 ≤ k0) (h1 : k0 ≤ 549755813880) :
    Calls Try.prog 42 #[v, .int .i64 k0] w fun e w' => e = .returned (.int .i64 (k0 + (n : Nat))) ∧ Chg (fun k => k ∈ v.ownBlock.toList ++ fss.flatten) w w' :=
  (markN_calls _ l v fss k0 w (Nat.le_refl _) h hd h0 (by omega)).mono fun e w' ⟨_, he, _, _, _, h4⟩ => ⟨by rw [← hn]; exact he, h4.mono (fun k _ e => by simp only [List.mem_append, mem_own]; exact e)⟩
/-! What comes in, measured. -/
theorem szR_eq (l : List S25) (hl : l.length ≤ maxLen) (hg : ∀ x ∈ l, good25 x) (left : Int) (h0 : 0 ≤ left) (h1 : left ≤ 1048576) : ∃ k, laws_szNodeS.f k l left = some (szLeft (l.length + (l.map totT).sum) left) := by
  unfold maxLen at hl
  refine ⟨(l.map (rnd ∘ toT)).sum + l.length + 2 + 1, ?_⟩
  generalize hk0 : (l.map (rnd ∘ toT)).sum + l.length + 2 = k
  simp only [laws_szNodeS.f]
  rw [w64 (by omega) (by omega)]
  by_cases h : left - (l.length : Int) < 0
  · rw [if_pos h]
    unfold szLeft
    rw [if_neg (by omega)]
  · rw [if_neg h]
    have e := sz_loop (g := fun k left i => laws_szNodeS.l0 k l left i) (xs := l) (K := (l.map (rnd ∘ toT)).sum + 1) totT (fun k left _ => by simp only [laws_szNodeS.l0]; rw [if_neg (by omega)])
      (fun k left i hi hk hl0 hl1 => by
        simp only [laws_szNodeS.l0]
        have hm := List.getElem_mem hi
        have hr : rnd (toT l[i]) ≤ (l.map (rnd ∘ toT)).sum := mem_le_sum (rnd ∘ toT) l _ hm
        obtain ⟨n, hn⟩ := hg _ hm
        rw [if_pos (by omega), if_pos (by omega), rdT' _ _ hi, szNode_eq n _ hn left k hl0 hl1 (by omega), Option.bind_some, wsucc (by omega)])
      l.length 0 k (left - l.length) (by omega) (by omega) (by omega) (by omega)
    have e0 : ((0 : Nat) : Int) = 0 := rfl
    rw [e0, List.drop_zero] at e
    rw [e]
    unfold szLeft
    by_cases h2 : (((l.map totT).sum : Nat) : Int) ≤ left - l.length
    · rw [if_pos h2, if_pos (by omega)]; congr 1; omega
    · rw [if_neg h2, if_neg (by omega)]
theorem szR_calls (l : List S25) (hl : l.length ≤ maxLen) (hg : ∀ x ∈ l, good25 x) (left : Int) (h0 : 0 ≤ left) (h1 : left ≤ 1048576) {A : Option Addr} {c : Nat} {w : World} (hr : k25.C w A l.length l) (hc : l.length ≤ c) :
    Calls Try.prog 18 #[.slice A l.length c, .int .i64 left] w fun e w' => e = .returned (.int .i64 (szLeft (l.length + (l.map totT).sum) left)) ∧ Below w.heap.size w w' := by
  obtain ⟨k, hk⟩ := szR_eq l hl hg left h0 h1
  exact laws_szNodeS.calls k _ _ _ _ _ w hr hc hk
theorem szN_calls (a : S25) (hg : good25 a) (left : Int) (h0 : 0 ≤ left) (h1 : left ≤ 1048576) {A3 A4 : Option Addr} {c3 c4 : Nat} {w : World} (g3 : Kd.C Kd.string w A3 a.f3.length a.f3) (l3 : a.f3.length ≤ c3) (g4 : k25.C w A4 a.f4.length a.f4) (l4 : a.f4.length ≤ c4) :
    Calls Try.prog 5 #[.agg #[.int .i64 a.f0, .int .i64 a.f1, .string a.f2, .slice A3 a.f3.length c3, .slice A4 a.f4.length c4], .int .i64 left] w fun e w' => e = .returned (.int .i64 (szLeft (totT a) left)) ∧ Below w.heap.size w w' := by
  obtain ⟨n, hn⟩ := hg
  exact laws_szNode.calls (rnd (toT a) + 1) _ _ _ _ _ _ _ _ _ _ _ w g3 l3 g4 l4 (szNode_eq n a hn left _ h0 h1 (by omega))
theorem toRow_all (l : List S25) (hg : ∀ x ∈ l, good25 x) (ht : l.length + (l.map totT).sum ≤ 1048576) : ToRow l :=
  toRow_of l (by omega) (fun x hx => by
    obtain ⟨n, hn⟩ := hg x hx
    have := mem_le_sum totT l x hx
    exact toTree_all n x hn (by omega))
theorem toTree_good (a : S25) (hg : good25 a) (ht : totT a ≤ 1048576) : ToTree a := by
  obtain ⟨n, hn⟩ := hg
  exact toTree_all n a hn ht
end Go.Proofs.Ytdlhidjphaaklaa.H
