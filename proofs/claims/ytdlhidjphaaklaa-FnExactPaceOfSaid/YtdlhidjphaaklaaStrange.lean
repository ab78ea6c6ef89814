/- The program's strange, where Keys ascend. -/
import Derived.Test.YtdlhidjphaaklaaAid
import Derived.Test.YtdlhidjphaaklaaBase
import Derived.Test.YtdlhidjphaaklaaCopy
import Derived.Test.YtdlhidjphaaklaaKeys
import Derived.Test.YtdlhidjphaaklaaLists
import Derived.Test.YtdlhidjphaaklaaMark
import Derived.Test.YtdlhidjphaaklaaOwn
import Derived.Lib.SlicesS
namespace Go.Proofs.Ytdlhidjphaaklaa.H
open Go.RowKit Go.Proofs.Ytdlhidjphaaklaa.P Go.Proofs.YtdlhidjphaaklaaW.PrintWords Go.Proofs.Ytdlhidjphaaklaa.M
set_option linter.unusedVariables false
set_option linter.unusedSimpArgs false

theorem has_calls (A : Option Addr) (c : Nat) (l : List ByteArray) (x : ByteArray) (w : World) (hr : Kd.string.C w A l.length l) (hl : l.length ≤ 1099511627776) :
    Calls Try.prog 28 #[.slice A l.length c, .string x] w fun e w' => e = .returned (.bool (Lib.containsS l x)) ∧ w = w' := by
  rcases Nat.eq_zero_or_pos l.length with h0 | h0
  · obtain rfl : l = [] := List.eq_nil_of_length_eq_zero h0
    refine (Try.slices_Contains_string_empty A c x w).mono fun e w' ⟨he, hw⟩ => ⟨?_, hw.symm⟩
    have : Lib.containsS [] x = false := by
      cases h : Lib.containsS [] x with
      | false => rfl
      | true => exact absurd ((Lib.containsS_iff [] x).1 h) (by simp)
    rw [this]
    exact he
  · obtain ⟨b, off, rfl, hg⟩ := C_cells h0 hr
    refine (Try.slices_Contains_string b off l.length c l x w (Nat.le_refl _) (by omega) hg).mono fun e w' ⟨he, hw⟩ => ⟨?_, hw.symm⟩
    rw [List.take_of_length_le (Nat.le_refl _)] at he
    exact he
/-- The first Key that is none of some. -/
def str1 (known : List ByteArray) : List ByteArray → Option (ByteArray × Bool)
  | [] => none
  | k :: ks => if k.toList = [] then some (⟨#[]⟩, false) else if Lib.containsS known k = true then str1 known ks else some (k, true)
/-- The first that there must be and is not there. -/
def str2 (ks : List ByteArray) : List ByteArray → Option (ByteArray × Bool)
  | [] => none
  | m :: ms => if Lib.containsS ks m = true then str2 ks ms else some (m, true)
def strangeV (x : S33) (known must : List ByteArray) : ByteArray × Bool := (str1 known (keysL x)).getD ((str2 (keysL x) must).getD (⟨#[]⟩, false))
set_option maxHeartbeats 8000000 in
set_option maxRecDepth 100000 in
theorem strange_calls (x : S33) (known must : List ByteArray) (ha : Asc (keysL x)) (hm : Asc must) (hl3 : x.f3.length ≤ 1099511627776) (hl4 : x.f4.length ≤ 1099511627776) (hlk : known.length ≤ 1099511627776) (hlm : must.length ≤ 1099511627776) (A3 A4 A1 A2 : Option Addr) (c3 c4 c1 c2 : Nat) (w : World) (g3 : Kd.C Kd.string w A3 x.f3.length x.f3) (l3 : x.f3.length ≤ c3) (g4 : k33.C w A4 x.f4.length x.f4) (l4 : x.f4.length ≤ c4)
    (g1 : Kd.string.C w A1 known.length known) (l1 : known.length ≤ c1) (g2 : Kd.string.C w A2 must.length must) (l2 : must.length ≤ c2) :
    Calls Try.prog 26 #[.agg #[.int .i64 x.f0, .int .i64 x.f1, .string x.f2, .slice A3 x.f3.length c3, .slice A4 x.f4.length c4], .slice A1 known.length c1, .slice A2 must.length c2] w fun e w' => e = .returned (.tuple #[.string (strangeV x known must).1, .bool (strangeV x known must).2]) ∧ Below w.heap.size w w' := by
  have hu := Try.underlying33
  have G3 := Lib.hid g3
  have G4 := Lib.hid g4
  have G1 := Lib.hid g1
  have G2 := Lib.hid g2
  have HA := Lib.hid ha
  have HM := Lib.hid hm
  have HB := Lib.hid (Below.refl w.heap.size w)
  have hkl : (keysL x).length ≤ 1099511627776 := by unfold keysL; rw [List.length_take]; omega
  obtain ⟨ks, hks⟩ : ∃ ks, keysL x = ks := ⟨_, rfl⟩
  have HKS := Lib.hid hks
  rw [hks] at hkl
  have T0 : True := trivial
  clear g3 g4 g1 g2 ha hm hks
  unfold strangeV
  rw [HKS.out]
  go_enter Try.func26, Try.ntmps26
  go_wp2_with (first
    | (clear T0; (with_reducible refine gate_dst (N := 3) rfl ?_); refine box_event rfl (N := 3) rfl (cs := #[.int .i64 x.f0, .int .i64 x.f1, .string x.f2, .slice A3 x.f3.length c3, .slice A4 x.f4.length c4]) (t := 33) (by first | (go_simp; done) | (go_simp; rfl)) ?_; intro gb hg wa bk hb; replace HB := Lib.hid hb; have BK := Lib.hid bk; obtain ⟨b0, b1, b2, b3, b4⟩ := cells5 bk; clear hg bk hb; have T1 : True := trivial)
    | (clear T1; go_at_call 29; refine (keysOf_calls x HA.out hl3 hl4 _ _ _ _ _ (Kd.C_below G3.out HB.out) l3 (Kd.C_below G4.out HB.out) l4).mono ?_; rintro e w1 ⟨v, rfl, ho, hf, hb⟩; rw [HKS.out] at ho; obtain ⟨Ak, ck, rfl, lk, gk⟩ := SRow_C ho; have GK := Lib.hid gk; replace BK := Lib.hid (blk_below BK.out hb); replace HB := Lib.hid (HB.out.trans (hb.mono HB.out.size)); clear ho hf hb gk b0 b1 b2 b3 b4; have T2 : True := trivial))
  go_loopg [9, 15] (ks.length + 1) (fun kq v9 v15 w' => ∃ i : Nat, v15 = .int .i64 i ∧ i ≤ ks.length ∧ kq + i = ks.length + 1 ∧ Aside0 (str1 known (ks.drop i) = str1 known ks) ∧ w' = w1)
  case atStart => exact ⟨0, rfl, Nat.zero_le _, by omega, ⟨rfl⟩, rfl⟩
  case round =>
    obtain ⟨i, rfl, hi, hq, HS, rfl⟩ := hrel
    obtain ⟨k1, rfl⟩ : ∃ k1, gk = k1 + 1 := ⟨gk - 1, by omega⟩
    by_cases hlt : i < ks.length
    · have hlti : (i : Int) < (ks.length : Int) := by omega
      have hz0 : (0 : Int) ≤ (i : Int) := by omega
      obtain ⟨q0, off0, rfl, hg0⟩ := C_cells (by omega) GK.out
      have hcell := hg0 i hlt
      clear hg0
      obtain ⟨kk, hkk⟩ : ∃ kk, ks.getD i ByteArray.empty = kk := ⟨_, rfl⟩
      rw [hkk] at hcell
      have hd : ks.drop i = kk :: ks.drop (i + 1) := by
        rw [List.drop_eq_getElem_cons hlt, ← hkk, List.getD_eq_getElem?_getD, List.getElem?_eq_getElem hlt]
        rfl
      have HS2 := Lib.hid HS.out
      rw [hd, show str1 known (kk :: ks.drop (i + 1)) = (if kk.toList = [] then some (⟨#[]⟩, false) else if Lib.containsS known kk = true then str1 known (ks.drop (i + 1)) else some (kk, true)) from rfl] at HS2
      have HI := Lib.hid hlt
      have HQ := Lib.hid hq
      clear hkk hd hq hlt
      by_cases he : kk.toList = []
      · have he1 : kk.toList.isEmpty = true := by rw [he]; rfl
        have he2 : (kk.toList == ([] : List UInt8)) = true := by rw [he]; rfl
        rw [if_pos he] at HS2
        clear he
        go_wp2
        go_ret2
        rw [← HS2.out]
        exact ⟨rfl, HB.out⟩
      · have he1 : kk.toList.isEmpty = false := by cases h : kk.toList with | nil => exact absurd h he | cons => rfl
        have he2 : (kk.toList == ([] : List UInt8)) = false := by cases h : kk.toList with | nil => exact absurd h he | cons => rfl
        rw [if_neg he] at HS2
        clear he
        by_cases hc : Lib.containsS known kk = true
        · rw [if_pos hc] at HS2
          go_wp2_with (go_at_call 28; refine (has_calls _ _ known kk _ (Kd.C_below G1.out HB.out) hlk).mono ?_; rintro e w2 ⟨rfl, rfl⟩)
          go_roundg k1
          case rel =>
            have h1 := HI.out
            have h2 := HQ.out
            exact ⟨i + 1, by go_num, by omega, by omega, ⟨HS2.out⟩, rfl⟩
          case measure => omega
        · rw [if_neg hc] at HS2
          have hcf : Lib.containsS known kk = false := by simpa using hc
          clear hc
          go_wp2_with (go_at_call 28; refine (has_calls _ _ known kk _ (Kd.C_below G1.out HB.out) hlk).mono ?_; rintro e w2 ⟨rfl, rfl⟩)
          go_ret2
          rw [← HS2.out]
          exact ⟨rfl, HB.out⟩
    · obtain rfl : i = ks.length := by omega
      have HS1 : Hid (str1 known ks = none) := by
        show _ = _
        rw [← HS.out, List.drop_of_length_le (Nat.le_refl _)]
        rfl
      have hlti : ¬ (ks.length : Int) < (ks.length : Int) := by omega
      have T3 : True := trivial
      go_wp2_with (first
        | (clear T3; go_at_call 51; refine (copyS_calls A2 c2 must _ hlm (Kd.C_below G2.out HB.out)).mono ?_; rintro e w3 ⟨v, rfl, ho, hf, hb⟩; have HO := Lib.hid ho; replace GK := Lib.hid (Kd.C_below GK.out hb); replace BK := Lib.hid (blk_below BK.out hb); replace HB := Lib.hid (HB.out.trans (hb.mono HB.out.size)); clear ho hf hb; have T4 : True := trivial)
        | (clear T4; go_at_call 52; refine (sort_calls must _ _ HO.out HM.out hlm).mono ?_; rintro e w4 ⟨rfl, hb⟩; obtain ⟨Am, cm, rfl, lm, gm⟩ := SRow_C (own_below HO.out hb); have GM := Lib.hid gm; replace GK := Lib.hid (Kd.C_below GK.out hb); replace BK := Lib.hid (blk_below BK.out hb); replace HB := Lib.hid (HB.out.trans (hb.mono HB.out.size)); clear hb gm HO; have T5 : True := trivial))
      go_loopg [11, 33] (must.length + 1) (fun kq v11 v33 w' => ∃ i : Nat, v33 = .int .i64 i ∧ i ≤ must.length ∧ kq + i = must.length + 1 ∧ Aside0 (str2 ks (must.drop i) = str2 ks must) ∧ Aside0 (Below w.heap.size w w') ∧ Aside0 (w'.heap[gb]? = some (.cells #[.int .i64 x.f0, .int .i64 x.f1, .string x.f2, .slice A3 x.f3.length c3, .slice A4 x.f4.length c4] 33 (0, 0))) ∧ Aside0 (Kd.string.C w' Am must.length must))
      case atStart => exact ⟨0, rfl, Nat.zero_le _, by omega, ⟨rfl⟩, ⟨HB.out⟩, ⟨BK.out⟩, ⟨GM.out⟩⟩
      case round =>
        obtain ⟨i, rfl, hi, hq, HT, HBr, BKr, GMr⟩ := hrel
        obtain ⟨k1, rfl⟩ : ∃ k1, gk = k1 + 1 := ⟨gk - 1, by omega⟩
        by_cases hlt : i < must.length
        · have hlti : (i : Int) < (must.length : Int) := by omega
          have hz0 : (0 : Int) ≤ (i : Int) := by omega
          have HGM := Lib.hid GMr.out
          clear HB BK GM GK GMr
          obtain ⟨q0, off0, rfl, hg0⟩ := C_cells (by omega) HGM.out
          have hcell := hg0 i hlt
          clear hg0
          obtain ⟨kk, hkk⟩ : ∃ kk, must.getD i ByteArray.empty = kk := ⟨_, rfl⟩
          rw [hkk] at hcell
          have hd : must.drop i = kk :: must.drop (i + 1) := by
            rw [List.drop_eq_getElem_cons hlt, ← hkk, List.getD_eq_getElem?_getD, List.getElem?_eq_getElem hlt]
            rfl
          have HS2 := Lib.hid HT.out
          rw [hd, show str2 ks (kk :: must.drop (i + 1)) = (if Lib.containsS ks kk = true then str2 ks (must.drop (i + 1)) else some (kk, true)) from rfl] at HS2
          have HI := Lib.hid hlt
          have HQ := Lib.hid hq
          have HB := Lib.hid HBr.out
          have BK := Lib.hid BKr.out
          obtain ⟨b0, b1, b2, b3, b4⟩ := cells5 BKr.out
          clear hkk hd hq hlt HBr BKr HT T5
          have T6 : True := trivial
          by_cases hc : Lib.containsS ks kk = true
          · rw [if_pos hc] at HS2
            go_wp2_with (first
              | (clear T6; go_at_call 29; refine (keysOf_calls x HA.out hl3 hl4 _ _ _ _ _ (Kd.C_below G3.out HB.out) l3 (Kd.C_below G4.out HB.out) l4).mono ?_; rintro e w5 ⟨v, rfl, ho, hf, hb⟩; rw [HKS.out] at ho; obtain ⟨Ak, ck, rfl, lk, gk⟩ := SRow_C ho; have GK := Lib.hid gk; replace HGM := Lib.hid (Kd.C_below HGM.out hb); replace BK := Lib.hid (blk_below BK.out hb); replace HB := Lib.hid (HB.out.trans (hb.mono HB.out.size)); clear ho hf hb gk b0 b1 b2 b3 b4; have T7 : True := trivial)
              | (clear T7; go_at_call 28; refine (has_calls _ _ ks kk _ GK.out hkl).mono ?_; rintro e w6 ⟨rfl, rfl⟩; have T8 : True := trivial))
            go_roundg k1
            case rel =>
              have h1 := HI.out
              have h2 := HQ.out
              exact ⟨i + 1, by go_num, by omega, by omega, ⟨HS2.out⟩, ⟨HB.out⟩, ⟨BK.out⟩, ⟨HGM.out⟩⟩
            case measure => omega
          · rw [if_neg hc] at HS2
            have hcf : Lib.containsS ks kk = false := by simpa using hc
            clear hc
            go_wp2_with (first
              | (clear T6; go_at_call 29; refine (keysOf_calls x HA.out hl3 hl4 _ _ _ _ _ (Kd.C_below G3.out HB.out) l3 (Kd.C_below G4.out HB.out) l4).mono ?_; rintro e w5 ⟨v, rfl, ho, hf, hb⟩; rw [HKS.out] at ho; obtain ⟨Ak, ck, rfl, lk, gk⟩ := SRow_C ho; have GK := Lib.hid gk; replace HB := Lib.hid (HB.out.trans (hb.mono HB.out.size)); clear ho hf hb gk b0 b1 b2 b3 b4; have T7 : True := trivial)
              | (clear T7; go_at_call 28; refine (has_calls _ _ ks kk _ GK.out hkl).mono ?_; rintro e w6 ⟨rfl, rfl⟩; have T8 : True := trivial))
            go_ret2
            rw [HS1.out, ← HS2.out]
            exact ⟨rfl, HB.out⟩
        · obtain rfl : i = must.length := by omega
          have HS3 : Hid (str2 ks must = none) := by
            show _ = _
            rw [← HT.out, List.drop_of_length_le (Nat.le_refl _)]
            rfl
          have hltj : ¬ (must.length : Int) < (must.length : Int) := by omega
          go_wp2
          go_ret2
          rw [HS1.out, HS3.out]
          exact ⟨rfl, HBr.out⟩
end Go.Proofs.Ytdlhidjphaaklaa.H
