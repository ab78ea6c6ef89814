/- The program's keysOf, where Keys ascend: nothing is sorted. -/
import Derived.Test.YtdlhidjphaaklaaAid
import Derived.Test.YtdlhidjphaaklaaBase
import Derived.Test.YtdlhidjphaaklaaCopy
import Derived.Test.YtdlhidjphaaklaaLists
import Derived.Test.YtdlhidjphaaklaaMark
import Derived.Test.YtdlhidjphaaklaaOwn
import Derived.Sort.Grow
namespace Go.Proofs.Ytdlhidjphaaklaa.H
open Go.RowKit Go.Proofs.Ytdlhidjphaaklaa.P Go.Proofs.YtdlhidjphaaklaaW.PrintWords Go.Proofs.Ytdlhidjphaaklaa.M
set_option linter.unusedVariables false
set_option linter.unusedSimpArgs false

/-- Texts that ascend. -/
def Asc (l : List ByteArray) : Prop := (l.map (·.data.toList)).Pairwise (· ≤ ·)
theorem below_grow (w : World) (n : Nat) (os : Array Obj) : Below w.heap.size w (Go.Sort.grow (Go.Sort.ahead w n) os) := by
  refine ⟨rfl, rfl, rfl, ?_, fun k hk => ?_⟩
  · show w.heap.size ≤ (w.heap ++ os).size
    rw [Array.size_append]
    omega
  · show (w.heap ++ os)[k]? = w.heap[k]?
    rw [Array.getElem?_append_left hk]
theorem sort_calls (l : List ByteArray) (v : Value) (w : World) (h : SRow w v l) (ha : Asc l) (hl : l.length ≤ 1099511627776) :
    Calls Try.prog 52 #[v] w fun e w' => e = .returned (.tuple #[]) ∧ Below w.heap.size w w' := by
  have h' := h
  obtain ⟨hlen, h2⟩ := h
  rcases h2 with ⟨rfl, hn⟩ | ⟨g, cap, cur, rfl, _, hg, hc, hm, hsz, ht⟩
  · exact (Try.slices_Sort_string_none none 0 w).mono fun e w' ⟨he, hw⟩ => ⟨he, hw ▸ Below.refl _ _⟩
  · rcases Nat.eq_zero_or_pos l.length with h0 | h0
    · rw [h0]
      exact (Try.slices_Sort_string_none _ _ w).mono fun e w' ⟨he, hw⟩ => ⟨he, hw ▸ Below.refl _ _⟩
    · have hH : Go.Sort.Holds encStr w g 0 (l.map (·.data.toList)).toArray := by
        intro j hj
        have hj2 : j < l.length := by simpa using hj
        have hc1 := own_cell (j := j) (u := .string l[j]) h' (by rw [List.getElem?_map, List.getElem?_eq_getElem hj2]; rfl)
        refine ⟨?_, by rw [Nat.zero_add]; exact own_free h' j⟩
        rw [Nat.zero_add, hc1, getElem!_pos _ j (by simpa using hj2)]
        simp [encStr]
      have := Try.slices_Sort_string g 0 cap (l.map (·.data.toList)) w hH (World.block_lt_of_cell? w ⟨g, 0, none⟩ (own_cell (j := 0) (u := .string l[0]) h' (by rw [List.getElem?_map, List.getElem?_eq_getElem h0]; rfl))) (by rw [List.length_map]; omega)
      rw [List.length_map] at this
      refine this.mono ?_
      rintro e w' ⟨rfl, n, os, rfl⟩
      rw [List.mergeSort_of_pairwise (by simpa [Asc] using ha)]
      have hA : Go.Sort.Holds encStr (Go.Sort.ahead w n) g 0 (l.map (fun x : ByteArray => x.data.toList)).toArray := fun j hj => hH j hj
      have hself := Go.Sort.putRow_self encStr (Go.Sort.ahead w n) g 0 _ hA
      rw [hself]
      exact ⟨rfl, below_grow w n os⟩
/-- A map's Keys that have a Kid. -/
def keysL (x : S33) : List ByteArray := x.f3.take (min x.f3.length x.f4.length)
theorem C_take {w : World} {A : Option Addr} {n m : Nat} {l : List ByteArray} (h : Kd.string.C w A n l) (hm : m ≤ n) : Kd.string.C w A m (l.take m) := by
  obtain ⟨h1, h2, h3⟩ := h
  refine ⟨by rw [List.length_take]; omega, by omega, fun h0 => ?_⟩
  obtain ⟨ad, e, hc⟩ := h3 (by omega)
  refine ⟨ad, e, fun j p hj => hc j p ?_⟩
  rw [List.getElem?_take] at hj
  split at hj
  · exact hj
  · cases hj
theorem keysL_len (x : S33) : (keysL x).length = min x.f3.length x.f4.length := by
  unfold keysL
  rw [List.length_take]
  omega
theorem keys_C {x : S33} {w : World} {A : Option Addr} (h : Kd.string.C w A x.f3.length x.f3) : Kd.string.C w A (keysL x).length (keysL x) := by
  rw [keysL_len]
  exact C_take h (Nat.min_le_left _ _)
set_option maxHeartbeats 4000000 in
set_option maxRecDepth 100000 in
theorem keysOf_calls (x : S33) (ha : Asc (keysL x)) (hl3 : x.f3.length ≤ 1099511627776) (hl4 : x.f4.length ≤ 1099511627776) (A3 A4 : Option Addr) (c3 c4 : Nat) (w : World) (g3 : Kd.C Kd.string w A3 x.f3.length x.f3) (l3 : x.f3.length ≤ c3) (g4 : k33.C w A4 x.f4.length x.f4) (l4 : x.f4.length ≤ c4) :
    Calls Try.prog 29 #[.agg #[.int .i64 x.f0, .int .i64 x.f1, .string x.f2, .slice A3 x.f3.length c3, .slice A4 x.f4.length c4]] w fun e w' => ∃ v, e = .returned v ∧ SRow w' v (keysL x) ∧ (∀ k, v.ownBlock = some k → w.heap.size ≤ k) ∧ Below w.heap.size w w' := by
  have hu := Try.underlying33
  have G3 := Lib.hid g3
  have HA := Lib.hid ha
  have T0 : True := trivial
  clear g3 g4 ha
  have HMN : Hid ((min (x.f3.length : Int) (x.f4.length : Int)).toNat = (keysL x).length) := by show _ = _; rw [keysL_len]; omega
  have hkl : (keysL x).length ≤ 1099511627776 := by rw [keysL_len]; omega
  go_enter Try.func29, Try.ntmps29
  go_wp2_with (first
    | (clear T0; (with_reducible refine gate_dst (N := 1) rfl ?_); refine box_event rfl (N := 1) rfl (cs := #[.int .i64 x.f0, .int .i64 x.f1, .string x.f2, .slice A3 x.f3.length c3, .slice A4 x.f4.length c4]) (t := 33) (by first | (go_simp; done) | (go_simp; rfl)) ?_; intro gb hg wa bk hb; have HB := Lib.hid hb; obtain ⟨c0, c1, c2, c3', c4'⟩ := cells5 bk; clear hg bk hb; have T1 : True := trivial)
    | (clear T1; go_at_call 51; rw [HMN.out]; refine (copyS_calls A3 c3 (keysL x) _ hkl (keys_C (Kd.C_below G3.out HB.out))).mono ?_; rintro e w1 ⟨v, rfl, ho, hf, hb⟩; have HO := Lib.hid ho; have HF := Lib.hid (fun k hk => Nat.le_trans HB.out.size (hf k hk)); replace HB := Lib.hid (HB.out.trans (hb.mono HB.out.size)); clear ho hf hb c0 c1 c2 c3' c4'; have T2 : True := trivial)
    | (clear T2; go_at_call 52; refine (sort_calls (keysL x) _ _ HO.out HA.out hkl).mono ?_; rintro e w2 ⟨rfl, hb⟩; replace HO := Lib.hid (own_below HO.out hb); replace HB := Lib.hid (HB.out.trans (hb.mono HB.out.size)); clear hb; have T3 : True := trivial))
  go_ret
  exact ⟨_, rfl, HO.out, HF.out, HB.out⟩
end Go.Proofs.Ytdlhidjphaaklaa.H
