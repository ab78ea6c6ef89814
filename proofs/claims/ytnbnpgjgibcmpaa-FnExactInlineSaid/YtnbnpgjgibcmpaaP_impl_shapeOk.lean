-- Made by drive.py (a program of this session) over the kit's print; not written line by line by a hand.
import Derived.Test.YtnbnpgjgibcmpaaP0
import Derived.Test.YtnbnpgjgibcmpaaP_spec_l3Right
namespace Go.Proofs.Ytnbnpgjgibcmpaa.P
open Go.RowKit Go.Proofs.YtnbnpgjgibcmpaaW.PrintWords Go.Proofs.YtnbnpgjgibcmpaaW.PrintLast Go.Proofs.YtnbnpgjgibcmpaaW.PrintMore
attribute [local go_sem] max2_int min2_int max_two min_two max_three min_three max_four min_four   -- for this text's walks alone
set_option linter.unusedVariables false
set_option linter.unusedSimpArgs false

/-! ### impl_shapeOk: function 129 -/
/-- What holds of a node's parts beside its Keys and its text, kind by kind: its N, whether its S is empty, how many Keys and Kids. -/
def shB (k n : Int) (e : Bool) (n3 n4 : Nat) : Bool :=
  if k = 0 then decide (n = 0) && e && decide (n3 = 0) && decide (n4 = 0)
  else if k = 1 then decide (0 ≤ n) && decide (n ≤ 1) && e && decide (n3 = 0) && decide (n4 = 0)
  else if k = 2 then decide (-1000000000000 ≤ n) && decide (n ≤ 1000000000000) && e && decide (n3 = 0) && decide (n4 = 0)
  else if k = 3 then decide (n = 0) && decide (n3 = 0) && decide (n4 = 0)
  else if k = 4 then decide (n = 0) && e && decide (n3 = 0)
  else if k = 5 then decide (n3 = n4) && decide (n = 0) && e
  else false
theorem cast_beq0 (n : Nat) : (((n : Int) == 0)) = decide (n = 0) := by
  by_cases h : n = 0 <;> simp [h]
set_option maxHeartbeats 8000000 in
set_option maxRecDepth 100000 in
theorem impl_shapeOk.k0 (a1 : Int) (a2 : ByteArray) (A3 : Option Addr) (c3 n3 : Nat) (A4 : Option Addr) (c4 n4 : Nat) (w : World) :
    Calls Try.prog 129 #[.agg #[.int .i64 0, .int .i64 a1, .string a2, .slice A3 n3 c3, .slice A4 n4 c4]] w fun e w' => e = .returned (.bool (shB 0 a1 (a2.toList == []) n3 n4)) ∧ Below w.heap.size w w' := by
  have hu := Try.underlying25
  obtain ⟨b, hb⟩ : ∃ b, (a2.toList == []) = b := ⟨_, rfl⟩
  rw [hb]
  go_enter Try.func129, Try.ntmps129
  go_wp2
  go_loopg [4, 5, 63] 1 (fun kq v4 v5 v63 w' => v63 = .int .i64 0 ∧ w' = (w.alloc (.cells #[.int .i64 0, .int .i64 a1, .string a2, .slice A3 n3 c3, .slice A4 n4 c4] 25)).alloc (.cells #[.int .i64 0, .int .i64 0, .string ⟨#[]⟩, .slice none 0 0, .slice none 0 0] 25))
  case atStart => exact ⟨rfl, rfl⟩
  case round =>
    obtain ⟨rfl, rfl⟩ := hrel
    go_wp2
    all_goals
      go_ret
      refine ⟨?_, by repeat (first | (with_reducible first | exact Below.refl _ _ | apply below_alloc | apply pw_below_drewN | apply below_drew1) | exact Below.refl _ _)⟩
      simp_all [shB, cast_beq0]
set_option maxHeartbeats 8000000 in
set_option maxRecDepth 100000 in
theorem impl_shapeOk.k1 (a1 : Int) (a2 : ByteArray) (A3 : Option Addr) (c3 n3 : Nat) (A4 : Option Addr) (c4 n4 : Nat) (w : World) :
    Calls Try.prog 129 #[.agg #[.int .i64 1, .int .i64 a1, .string a2, .slice A3 n3 c3, .slice A4 n4 c4]] w fun e w' => e = .returned (.bool (shB 1 a1 (a2.toList == []) n3 n4)) ∧ Below w.heap.size w w' := by
  have hu := Try.underlying25
  obtain ⟨b, hb⟩ : ∃ b, (a2.toList == []) = b := ⟨_, rfl⟩
  rw [hb]
  by_cases g1 : 0 ≤ a1
  · have g1' : decide (0 ≤ a1) = true := decide_eq_true g1
    by_cases g2 : a1 ≤ 1
    · have g2' : decide (a1 ≤ 1) = true := decide_eq_true g2
      go_enter Try.func129, Try.ntmps129
      go_wp2
      go_loopg [4, 5, 63] 1 (fun kq v4 v5 v63 w' => v63 = .int .i64 0 ∧ w' = (w.alloc (.cells #[.int .i64 1, .int .i64 a1, .string a2, .slice A3 n3 c3, .slice A4 n4 c4] 25)).alloc (.cells #[.int .i64 1, .int .i64 a1, .string ⟨#[]⟩, .slice none 0 0, .slice none 0 0] 25))
      case atStart => exact ⟨rfl, rfl⟩
      case round =>
        obtain ⟨rfl, rfl⟩ := hrel
        go_wp2
        all_goals
          go_ret
          refine ⟨?_, by repeat (first | (with_reducible first | exact Below.refl _ _ | apply below_alloc | apply pw_below_drewN | apply below_drew1) | exact Below.refl _ _)⟩
          simp_all [shB, cast_beq0]
    · have g2' : decide (a1 ≤ 1) = false := decide_eq_false g2
      go_enter Try.func129, Try.ntmps129
      go_wp2
      go_ret
      refine ⟨?_, by repeat (first | (with_reducible first | exact Below.refl _ _ | apply below_alloc | apply pw_below_drewN | apply below_drew1) | exact Below.refl _ _)⟩
      simp_all [shB]
      try omega
  · have g1' : decide (0 ≤ a1) = false := decide_eq_false g1
    go_enter Try.func129, Try.ntmps129
    go_wp2
    go_ret
    refine ⟨?_, by repeat (first | (with_reducible first | exact Below.refl _ _ | apply below_alloc | apply pw_below_drewN | apply below_drew1) | exact Below.refl _ _)⟩
    simp_all [shB]
    try omega
set_option maxHeartbeats 8000000 in
set_option maxRecDepth 100000 in
theorem impl_shapeOk.k2 (a1 : Int) (a2 : ByteArray) (A3 : Option Addr) (c3 n3 : Nat) (A4 : Option Addr) (c4 n4 : Nat) (w : World) :
    Calls Try.prog 129 #[.agg #[.int .i64 2, .int .i64 a1, .string a2, .slice A3 n3 c3, .slice A4 n4 c4]] w fun e w' => e = .returned (.bool (shB 2 a1 (a2.toList == []) n3 n4)) ∧ Below w.heap.size w w' := by
  have hu := Try.underlying25
  obtain ⟨b, hb⟩ : ∃ b, (a2.toList == []) = b := ⟨_, rfl⟩
  rw [hb]
  by_cases g1 : -1000000000000 ≤ a1
  · have g1' : decide (-1000000000000 ≤ a1) = true := decide_eq_true g1
    by_cases g2 : a1 ≤ 1000000000000
    · have g2' : decide (a1 ≤ 1000000000000) = true := decide_eq_true g2
      go_enter Try.func129, Try.ntmps129
      go_wp2
      go_loopg [4, 5, 63] 1 (fun kq v4 v5 v63 w' => v63 = .int .i64 0 ∧ w' = (w.alloc (.cells #[.int .i64 2, .int .i64 a1, .string a2, .slice A3 n3 c3, .slice A4 n4 c4] 25)).alloc (.cells #[.int .i64 2, .int .i64 a1, .string ⟨#[]⟩, .slice none 0 0, .slice none 0 0] 25))
      case atStart => exact ⟨rfl, rfl⟩
      case round =>
        obtain ⟨rfl, rfl⟩ := hrel
        go_wp2
        all_goals
          go_ret
          refine ⟨?_, by repeat (first | (with_reducible first | exact Below.refl _ _ | apply below_alloc | apply pw_below_drewN | apply below_drew1) | exact Below.refl _ _)⟩
          simp_all [shB, cast_beq0]
    · have g2' : decide (a1 ≤ 1000000000000) = false := decide_eq_false g2
      go_enter Try.func129, Try.ntmps129
      go_wp2
      go_ret
      refine ⟨?_, by repeat (first | (with_reducible first | exact Below.refl _ _ | apply below_alloc | apply pw_below_drewN | apply below_drew1) | exact Below.refl _ _)⟩
      simp_all [shB]
      try omega
  · have g1' : decide (-1000000000000 ≤ a1) = false := decide_eq_false g1
    go_enter Try.func129, Try.ntmps129
    go_wp2
    go_ret
    refine ⟨?_, by repeat (first | (with_reducible first | exact Below.refl _ _ | apply below_alloc | apply pw_below_drewN | apply below_drew1) | exact Below.refl _ _)⟩
    simp_all [shB]
    try omega
set_option maxHeartbeats 8000000 in
set_option maxRecDepth 100000 in
theorem impl_shapeOk.k3 (a1 : Int) (a2 : ByteArray) (A3 : Option Addr) (c3 n3 : Nat) (A4 : Option Addr) (c4 n4 : Nat) (w : World) (k : Nat) (ht : impl_TextOk.f k a2 = some true) :
    Calls Try.prog 129 #[.agg #[.int .i64 3, .int .i64 a1, .string a2, .slice A3 n3 c3, .slice A4 n4 c4]] w fun e w' => e = .returned (.bool (shB 3 a1 (a2.toList == []) n3 n4)) ∧ Below w.heap.size w w' := by
  have hu := Try.underlying25
  obtain ⟨b, hb⟩ : ∃ b, (a2.toList == []) = b := ⟨_, rfl⟩
  rw [hb]
  go_enter Try.func129, Try.ntmps129
  go_wp2_with (go_at_call 68; refine (impl_TextOk.calls k a2 true _ ht).mono ?_; rintro e w' ⟨rfl, ⟨nd, rfl⟩⟩)
  go_loopg [4, 5, 63] 1 (fun kq v4 v5 v63 w' => v63 = .int .i64 0 ∧ w' = (((w.alloc (.cells #[.int .i64 3, .int .i64 a1, .string a2, .slice A3 n3 c3, .slice A4 n4 c4] 25)).alloc (.cells #[.int .i64 3, .int .i64 0, .string ⟨#[]⟩, .slice none 0 0, .slice none 0 0] 25)).drewN nd).setCell ⟨w.heap.size + 1, 2, none⟩ (.string a2))
  case atStart => exact ⟨rfl, rfl⟩
  case round =>
    obtain ⟨rfl, rfl⟩ := hrel
    go_wp2
    all_goals
      go_ret
      refine ⟨?_, (pw_below_drewN (below_alloc (below_alloc (Below.refl _ _) _) _) _).setCell (by simp) _⟩
      simp_all [shB, cast_beq0]
set_option maxHeartbeats 8000000 in
set_option maxRecDepth 100000 in
theorem impl_shapeOk.k3f (a1 : Int) (a2 : ByteArray) (A3 : Option Addr) (c3 n3 : Nat) (A4 : Option Addr) (c4 n4 : Nat) (w : World) (k : Nat) (ht : impl_TextOk.f k a2 = some false) :
    Calls Try.prog 129 #[.agg #[.int .i64 3, .int .i64 a1, .string a2, .slice A3 n3 c3, .slice A4 n4 c4]] w fun e w' => e = .returned (.bool false) ∧ Below w.heap.size w w' := by
  have hu := Try.underlying25
  obtain ⟨b, hb⟩ : ∃ b, (a2.toList == []) = b := ⟨_, rfl⟩
  go_enter Try.func129, Try.ntmps129
  go_wp2_with (go_at_call 68; refine (impl_TextOk.calls k a2 false _ ht).mono ?_; rintro e w' ⟨rfl, ⟨nd, rfl⟩⟩)
  go_ret
  refine ⟨?_, by repeat (first | (with_reducible first | exact Below.refl _ _ | apply below_alloc | apply pw_below_drewN | apply below_drew1) | exact Below.refl _ _)⟩
  simp_all [shB]
  try omega
set_option maxHeartbeats 8000000 in
set_option maxRecDepth 100000 in
theorem impl_shapeOk.k4 (a1 : Int) (a2 : ByteArray) (A3 : Option Addr) (c3 n3 : Nat) (A4 : Option Addr) (c4 n4 : Nat) (w : World) :
    Calls Try.prog 129 #[.agg #[.int .i64 4, .int .i64 a1, .string a2, .slice A3 n3 c3, .slice A4 n4 c4]] w fun e w' => e = .returned (.bool (shB 4 a1 (a2.toList == []) n3 n4)) ∧ Below w.heap.size w w' := by
  have hu := Try.underlying25
  obtain ⟨b, hb⟩ : ∃ b, (a2.toList == []) = b := ⟨_, rfl⟩
  rw [hb]
  go_enter Try.func129, Try.ntmps129
  go_wp2
  go_loopg [4, 5, 63] 1 (fun kq v4 v5 v63 w' => v63 = .int .i64 0 ∧ w' = (w.alloc (.cells #[.int .i64 4, .int .i64 a1, .string a2, .slice A3 n3 c3, .slice A4 n4 c4] 25)).alloc (.cells #[.int .i64 4, .int .i64 0, .string ⟨#[]⟩, .slice none 0 0, .slice A4 n4 c4] 25))
  case atStart => exact ⟨rfl, rfl⟩
  case round =>
    obtain ⟨rfl, rfl⟩ := hrel
    go_wp2
    all_goals
      go_ret
      refine ⟨?_, by repeat (first | (with_reducible first | exact Below.refl _ _ | apply below_alloc | apply pw_below_drewN | apply below_drew1) | exact Below.refl _ _)⟩
      simp_all [shB, cast_beq0]
set_option maxHeartbeats 8000000 in
set_option maxRecDepth 100000 in
theorem impl_shapeOk.k5f (a1 : Int) (a2 : ByteArray) (A3 : Option Addr) (c3 n3 : Nat) (A4 : Option Addr) (c4 n4 : Nat) (w : World) (hne : ¬ (n3 = n4)) :
    Calls Try.prog 129 #[.agg #[.int .i64 5, .int .i64 a1, .string a2, .slice A3 n3 c3, .slice A4 n4 c4]] w fun e w' => e = .returned (.bool false) ∧ Below w.heap.size w w' := by
  have hu := Try.underlying25
  obtain ⟨b, hb⟩ : ∃ b, (a2.toList == []) = b := ⟨_, rfl⟩
  have hne' : ¬ ((n3 : Int) = (n4 : Int)) := by omega
  go_enter Try.func129, Try.ntmps129
  go_wp2
  go_ret
  refine ⟨?_, by repeat (first | (with_reducible first | exact Below.refl _ _ | apply below_alloc | apply pw_below_drewN | apply below_drew1) | exact Below.refl _ _)⟩
  simp_all [shB]
  try omega
set_option maxHeartbeats 8000000 in
set_option maxRecDepth 100000 in
theorem impl_shapeOk.kx (a1 : Int) (a2 : ByteArray) (A3 : Option Addr) (c3 n3 : Nat) (A4 : Option Addr) (c4 n4 : Nat) (w : World) (a0 : Int) (h0 : ¬ (a0 = 0)) (h1 : ¬ (a0 = 1)) (h2 : ¬ (a0 = 2)) (h3 : ¬ (a0 = 3)) (h4 : ¬ (a0 = 4)) (h5 : ¬ (a0 = 5)) :
    Calls Try.prog 129 #[.agg #[.int .i64 a0, .int .i64 a1, .string a2, .slice A3 n3 c3, .slice A4 n4 c4]] w fun e w' => e = .returned (.bool false) ∧ Below w.heap.size w w' := by
  have hu := Try.underlying25
  obtain ⟨b, hb⟩ : ∃ b, (a2.toList == []) = b := ⟨_, rfl⟩
  go_enter Try.func129, Try.ntmps129
  go_wp2
  go_ret
  refine ⟨?_, by repeat (first | (with_reducible first | exact Below.refl _ _ | apply below_alloc | apply pw_below_drewN | apply below_drew1) | exact Below.refl _ _)⟩
  simp_all [shB]
  try omega
theorem of_not_true {b : Bool} (h : (!b) = true) : b = false := by simpa using h
theorem of_not_false {b : Bool} (h : (!b) = false) : b = true := by simpa using h
def impl_shapeOk.l0 (e : Bool) : Nat → List ByteArray → Nat → Option Bool
  | 0, _, _ => none
  | k + 1, l, i => if i < l.length then (impl_TextOk.f k (rdOf ByteArray.empty l (i : Int))).bind fun t => (if t = true then (if 0 < i then (if Op.bytesLess (rdOf ByteArray.empty l ((i : Int) - 1)).toList (rdOf ByteArray.empty l (i : Int)).toList = true then impl_shapeOk.l0 e k l (i + 1) else some false) else impl_shapeOk.l0 e k l (i + 1)) else some false) else some e
set_option maxHeartbeats 8000000 in
set_option maxRecDepth 100000 in
theorem impl_shapeOk.k5 (k : Nat) (a1 : Int) (a2 : ByteArray) (A3 : Option Addr) (c3 : Nat) (l3 : List ByteArray) (A4 : Option Addr) (c4 : Nat) (r : Bool) (w : World) (hr : Kd.C Kd.string w A3 l3.length l3) (hc : l3.length ≤ c3)
    (h : impl_shapeOk.l0 (decide (a1 = 0) && (a2.toList == [])) k l3 0 = some r) :
    Calls Try.prog 129 #[.agg #[.int .i64 5, .int .i64 a1, .string a2, .slice A3 l3.length c3, .slice A4 l3.length c4]] w fun e w' => e = .returned (.bool r) ∧ Below w.heap.size w w' := by
  have hu := Try.underlying25
  obtain ⟨b, hb⟩ : ∃ b, (a2.toList == []) = b := ⟨_, rfl⟩
  rw [hb] at h
  have HC := Aside0.mk hc
  have HR := Aside0.mk hr
  have HH := Aside0.mk h
  clear hr hc h
  go_enter Try.func129, Try.ntmps129
  go_wp2
  go_region
  go_wp2
  obtain ⟨W, hW⟩ : ∃ W, W = ((w.alloc (.cells #[.int .i64 5, .int .i64 a1, .string a2, .slice A3 l3.length c3, .slice A4 l3.length c4] 25)).alloc (.cells #[.int .i64 5, .int .i64 0, .string ⟨#[]⟩, .slice A3 l3.length c3, .slice A4 l3.length c4] 25)).drew := ⟨_, rfl⟩
  have hb : Below w.heap.size w W := by rw [hW]; exact below_drew1 (below_alloc (below_alloc (Below.refl _ _) _) _)
  have f1 : W.cell? ⟨w.heap.size, 1, none⟩ = some (.int .i64 a1) := by rw [hW]; go_simp
  have f2 : W.cell? ⟨w.heap.size, 2, none⟩ = some (.string a2) := by rw [hW]; go_simp
  have f3 : W.cell? ⟨w.heap.size, 3, none⟩ = some (.slice A3 l3.length c3) := by rw [hW]; go_simp
  have f4 : W.cell? ⟨w.heap.size, 4, none⟩ = some (.slice A4 l3.length c4) := by rw [hW]; go_simp
  have g1 : W.cell? ⟨w.heap.size + 1, 1, none⟩ = some (.int .i64 0) := by rw [hW]; go_simp
  have g2 : W.cell? ⟨w.heap.size + 1, 2, none⟩ = some (.string ⟨#[]⟩) := by rw [hW]; go_simp
  have g3 : W.cell? ⟨w.heap.size + 1, 3, none⟩ = some (.slice A3 l3.length c3) := by rw [hW]; go_simp
  have g4 : W.cell? ⟨w.heap.size + 1, 4, none⟩ = some (.slice A4 l3.length c4) := by rw [hW]; go_simp
  have HB := Aside0.mk hb
  have HR1 := Aside0.mk (Kd.C_below HR.out hb)
  rw [← hW]
  clear hW hb
  have hlen : (l3.length : Int) ≤ 9223372036854775807 := by have := HR.out.2.1; omega
  go_loopg [4, 5, 63] k (fun kq v4 v5 v63 w' => ∃ i : Nat, v63 = .int .i64 i ∧ Aside0 (impl_shapeOk.l0 (decide (a1 = 0) && b) kq l3 i = some r) ∧ Aside0 (i ≤ l3.length) ∧ Drawn0 W w')
  case atStart => exact ⟨0, rfl, HH, ⟨Nat.zero_le _⟩, Drawn0.refl _⟩
  case round =>
    obtain ⟨i, rfl, HA, HI, ⟨m1, rfl⟩⟩ := hrel
    cases gk with
    | zero => exact absurd HA.out (by simp [impl_shapeOk.l0])
    | succ k1 =>
      have H := HA.out
      clear HA
      simp only [impl_shapeOk.l0] at H
      by_cases c2 : i < l3.length
      · rw [if_pos c2] at H
        obtain ⟨t, A, H⟩ := Option.bind_eq_some_iff.mp H
        obtain ⟨ad, e0, x0⟩ := Kd.at_string HR1.out (i : Int) (by omega) (by omega)
        cases e0
        have AA := Aside0.mk A
        clear A
        rw [Int.toNat_natCast] at x0
        by_cases c0 : 0 < i
        · rw [if_pos c0] at H
          have c0b : decide (0 < (i : Int)) = true := decide_eq_true (by omega)
          obtain ⟨ad1, e1, x1⟩ := Kd.at_string HR1.out ((i : Int) - 1) (by omega) (by omega)
          obtain rfl : ad = ad1 := by injection e1
          have hsub : IntKind.i64.wrap ((i : Int) - 1) = (i : Int) - 1 := by rw [IntKind.wrap_i64]; omega
          have h0 : 0 ≤ (i : Int) - 1 := by omega
          have htn : ((i : Int) - 1).toNat = i - 1 := by omega
          rw [htn] at x1
          clear c0
          cases t with
          | true =>
            rw [if_pos rfl] at H
            go_wp2_with (go_at_call 68; refine (impl_TextOk.calls k1 _ true _ AA.out).mono ?_; rintro e w' ⟨rfl, ⟨nd, rfl⟩⟩)
            · have hlt := of_not_true ‹(!_) = true›
              rw [if_neg (by rw [hlt]; decide)] at H
              obtain rfl := Option.some.inj H
              go_ret
              exact ⟨rfl, HB.out.trans (by repeat (first | (with_reducible first | exact Below.refl _ _ | apply below_alloc | apply pw_below_drewN | apply below_drew1) | exact Below.refl _ _))⟩
            · have hlt := of_not_false ‹(!_) = false›
              rw [if_pos hlt] at H
              have HA2 := Aside0.mk H
              clear H
              go_roundg k1
              case rel => exact ⟨i + 1, by go_num, HA2, ⟨by omega⟩, by repeat (first | exact Drawn0.refl _ | apply Drawn0.step)⟩
              case measure => omega
          | false =>
            rw [if_neg (by decide)] at H
            obtain rfl := Option.some.inj H
            go_wp2_with (go_at_call 68; refine (impl_TextOk.calls k1 _ false _ AA.out).mono ?_; rintro e w' ⟨rfl, ⟨nd, rfl⟩⟩)
            go_ret
            exact ⟨rfl, HB.out.trans (by repeat (first | (with_reducible first | exact Below.refl _ _ | apply below_alloc | apply pw_below_drewN | apply below_drew1) | exact Below.refl _ _))⟩
        · rw [if_neg c0] at H
          obtain rfl : i = 0 := by omega
          rw [Addr.add_zero'] at x0
          have x00 : W.cell? ad = some (.string (rdOf ByteArray.empty l3 0)) := x0
          clear x0
          have A0 : impl_TextOk.f k1 (rdOf ByteArray.empty l3 0) = some t := AA.out
          have AA := Aside0.mk A0
          clear A0
          cases t with
          | true =>
            rw [if_pos rfl] at H
            have HA2 := Aside0.mk H
            clear H
            go_wp2_with (go_at_call 68; refine (impl_TextOk.calls k1 _ true _ AA.out).mono ?_; rintro e w' ⟨rfl, ⟨nd, rfl⟩⟩)
            go_roundg k1
            case rel => exact ⟨1, by go_num, HA2, ⟨by omega⟩, by repeat (first | exact Drawn0.refl _ | apply Drawn0.step)⟩
            case measure => omega
          | false =>
            rw [if_neg (by decide)] at H
            obtain rfl := Option.some.inj H
            go_wp2_with (go_at_call 68; refine (impl_TextOk.calls k1 _ false _ AA.out).mono ?_; rintro e w' ⟨rfl, ⟨nd, rfl⟩⟩)
            go_ret
            exact ⟨rfl, HB.out.trans (by repeat (first | (with_reducible first | exact Below.refl _ _ | apply below_alloc | apply pw_below_drewN | apply below_drew1) | exact Below.refl _ _))⟩
      · rw [if_neg c2] at H
        obtain rfl := Option.some.inj H
        have HI2 : i = l3.length := by have := HI.out; omega
        subst HI2
        go_wp2
        all_goals
          go_ret
          refine ⟨?_, HB.out.trans (by repeat (first | (with_reducible first | exact Below.refl _ _ | apply below_alloc | apply pw_below_drewN | apply below_drew1) | exact Below.refl _ _))⟩
          simp_all
def impl_shapeOk.f (k : Nat) (a0_0 a0_1 : Int) (a0_2 : ByteArray) (l0_3 : List ByteArray) (l0_4 : List S25) : Option Bool :=
  if a0_0 = 3 then (impl_TextOk.f k a0_2).bind fun t => (if t = true then some (shB 3 a0_1 (a0_2.toList == []) l0_3.length l0_4.length) else some false)
  else if a0_0 = 5 then (if l0_3.length = l0_4.length then impl_shapeOk.l0 (decide (a0_1 = 0) && (a0_2.toList == [])) k l0_3 0 else some false)
  else some (shB a0_0 a0_1 (a0_2.toList == []) l0_3.length l0_4.length)
theorem impl_shapeOk.mono_l (e : Bool) : ∀ k, (∀ l i, LeO (impl_shapeOk.l0 e k l i) (impl_shapeOk.l0 e (k + 1) l i))
  | 0 => fun _ _ r h => by simp [impl_shapeOk.l0] at h
  | k + 1 => by
    have ih0 := impl_shapeOk.mono_l e k
    intro l i
    unfold impl_shapeOk.l0
    repeat' first
      | (with_reducible exact ih0 _ _)
      | (with_reducible exact impl_TextOk.mono _ _)
      | (with_reducible exact LeO.refl _)
      | (with_reducible exact LeO.none _)
      | (with_reducible refine LeO.ite ?_ ?_)
      | (with_reducible refine LeO.bind ?_ (fun _ => ?_))
      | exact ih0 _ _
      | exact impl_TextOk.mono _ _
      | exact LeO.none _
      | refine LeO.ite ?_ ?_
      | refine LeO.bind ?_ (fun _ => ?_)
theorem impl_shapeOk.mono : ∀ a0 a1 a2 a3 a4 k, LeO (impl_shapeOk.f k a0 a1 a2 a3 a4) (impl_shapeOk.f (k + 1) a0 a1 a2 a3 a4) := by
  intro a0 a1 a2 a3 a4 k
  have ih0 := impl_shapeOk.mono_l (decide (a1 = 0) && (a2.toList == [])) k
  unfold impl_shapeOk.f
  repeat' first
      | (with_reducible exact ih0 _ _)
      | (with_reducible exact impl_TextOk.mono _ _)
      | (with_reducible exact LeO.refl _)
      | (with_reducible exact LeO.none _)
      | (with_reducible refine LeO.ite ?_ ?_)
      | (with_reducible refine LeO.bind ?_ (fun _ => ?_))
theorem impl_shapeOk.calls (k : Nat) (a0_0 : Int) (a0_1 : Int) (a0_2 : ByteArray) (A0_3 : Option Addr) (c0_3 : Nat) (l0_3 : List ByteArray) (A0_4 : Option Addr) (c0_4 : Nat) (l0_4 : List S25) (r : Bool) (w : World) (hr0_3 : Kd.C Kd.string w A0_3 l0_3.length l0_3) (hc0_3 : l0_3.length ≤ c0_3) (hr0_4 : Kd.C k25 w A0_4 l0_4.length l0_4) (hc0_4 : l0_4.length ≤ c0_4) (h : impl_shapeOk.f k a0_0 a0_1 a0_2 l0_3 l0_4 = some r) :
    Calls Try.prog 129 #[.agg #[.int .i64 a0_0, .int .i64 a0_1, .string a0_2, .slice A0_3 l0_3.length c0_3, .slice A0_4 l0_4.length c0_4]] w fun e w' => e = .returned (.bool r) ∧ Below w.heap.size w w' := by
  unfold impl_shapeOk.f at h
  by_cases h3 : a0_0 = 3
  · rw [if_pos h3] at h
    subst h3
    obtain ⟨t, ht, h⟩ := Option.bind_eq_some_iff.mp h
    cases t with
    | true => rw [if_pos rfl] at h; obtain rfl := Option.some.inj h; exact impl_shapeOk.k3 _ _ _ _ _ _ _ _ _ k ht
    | false => rw [if_neg (by decide)] at h; obtain rfl := Option.some.inj h; exact impl_shapeOk.k3f _ _ _ _ _ _ _ _ _ k ht
  · rw [if_neg h3] at h
    by_cases h5 : a0_0 = 5
    · rw [if_pos h5] at h
      subst h5
      by_cases hl : l0_3.length = l0_4.length
      · rw [if_pos hl] at h
        rw [← hl]
        exact impl_shapeOk.k5 k _ _ _ _ _ _ _ _ _ hr0_3 hc0_3 h
      · rw [if_neg hl] at h
        obtain rfl := Option.some.inj h
        exact impl_shapeOk.k5f _ _ _ _ _ _ _ _ _ hl
    · rw [if_neg h5] at h
      obtain rfl := Option.some.inj h
      by_cases h0 : a0_0 = 0
      · subst h0; exact impl_shapeOk.k0 _ _ _ _ _ _ _ _ _
      · by_cases h1 : a0_0 = 1
        · subst h1; exact impl_shapeOk.k1 _ _ _ _ _ _ _ _ _
        · by_cases h2 : a0_0 = 2
          · subst h2; exact impl_shapeOk.k2 _ _ _ _ _ _ _ _ _
          · by_cases h4 : a0_0 = 4
            · subst h4; exact impl_shapeOk.k4 _ _ _ _ _ _ _ _ _
            · have e : shB a0_0 a0_1 (a0_2.toList == []) l0_3.length l0_4.length = false := by unfold shB; rw [if_neg h0, if_neg h1, if_neg h2, if_neg h3, if_neg h4, if_neg h5]
              rw [e]
              exact impl_shapeOk.kx _ _ _ _ _ _ _ _ _ _ h0 h1 h2 h3 h4 h5

/-! ### impl_allShapes: function 95 -/
/-! ### impl_Node_130: function 130 -/
/-! ### impl_allShapes_1: function 131 -/
/-! ### impl_Node_148: function 148 -/
mutual
def impl_allShapes.f : Nat → Int → Int → ByteArray → List ByteArray → List (S25) → Option (Bool)
  | 0, _, _, _, _, _ => none
  | k + 1, a0_0, a0_1, a0_2, l0_3, l0_4 => (impl_shapeOk.f k a0_0 a0_1 a0_2 l0_3 l0_4).bind fun t771 => (if t771 = true then ((impl_Node_130.f k l0_4).bind fun t772 => (some (!t772))) else (some false))
def impl_Node_130.f : Nat → List (S25) → Option (Bool)
  | 0, _ => none
  | k + 1, l0 => (impl_Node_148.f k l0).bind fun t773 => (some (decide (t773 ≥ 0)))
def impl_allShapes_1.f : Nat → Int → Int → ByteArray → List ByteArray → List (S25) → Option (Bool)
  | 0, _, _, _, _, _ => none
  | k + 1, a0_0, a0_1, a0_2, l0_3, l0_4 => (impl_allShapes.f k a0_0 a0_1 a0_2 l0_3 l0_4).bind fun t775 => (some (!t775))
def impl_Node_148.l0 : Nat → List (S25) → Int → Int → Option (Int)
  | 0, _, _, _ => none
  | k + 1, x0, x7, x8 => if x8 < x7 then (if 0 ≤ x8 then (if x8 < (x0.length : Int) then ((impl_allShapes_1.f k ((rd_T25 x0 x8).f0) ((rd_T25 x0 x8).f1) ((rd_T25 x0 x8).f2) ((rd_T25 x0 x8).f3) ((rd_T25 x0 x8).f4)).bind fun t777 => (if t777 = true then (some x8) else (impl_Node_148.l0 k x0 x7 (wrap64 (x8 + 1))))) else (none)) else (none)) else (some (-1))
def impl_Node_148.f : Nat → List (S25) → Option (Int)
  | 0, _ => none
  | k + 1, l0 => impl_Node_148.l0 k l0 (l0.length : Int) 0
end
theorem impl_allShapes.mono_l : ∀ k, (∀ y0 y1 y2 y3 y4, LeO (impl_allShapes.f k y0 y1 y2 y3 y4) (impl_allShapes.f (k + 1) y0 y1 y2 y3 y4)) ∧ (∀ y0, LeO (impl_Node_130.f k y0) (impl_Node_130.f (k + 1) y0)) ∧ (∀ y0 y1 y2 y3 y4, LeO (impl_allShapes_1.f k y0 y1 y2 y3 y4) (impl_allShapes_1.f (k + 1) y0 y1 y2 y3 y4)) ∧ (∀ y0 y1 y2, LeO (impl_Node_148.l0 k y0 y1 y2) (impl_Node_148.l0 (k + 1) y0 y1 y2)) ∧ (∀ y0, LeO (impl_Node_148.f k y0) (impl_Node_148.f (k + 1) y0))
  | 0 => ⟨fun _ _ _ _ _ r h => by simp [impl_allShapes.f] at h, fun _ r h => by simp [impl_Node_130.f] at h, fun _ _ _ _ _ r h => by simp [impl_allShapes_1.f] at h, fun _ _ _ r h => by simp [impl_Node_148.l0] at h, fun _ r h => by simp [impl_Node_148.f] at h⟩
  | k + 1 => by
    obtain ⟨ih0, ih1, ih2, ih3, ih4⟩ := impl_allShapes.mono_l k
    refine ⟨?_, ?_, ?_, ?_, ?_⟩
    · intro y0 y1 y2 y3 y4
      unfold impl_allShapes.f
      repeat' first
      | (with_reducible exact ih0 _ _ _ _ _)
      | (with_reducible exact ih1 _)
      | (with_reducible exact ih2 _ _ _ _ _)
      | (with_reducible exact ih3 _ _ _)
      | (with_reducible exact ih4 _)
      | (with_reducible exact impl_shapeOk.mono _ _ _ _ _ _)
      | (with_reducible exact LeO.refl _)
      | (with_reducible exact LeO.none _)
      | (with_reducible refine LeO.ite ?_ ?_)
      | (with_reducible refine LeO.bind ?_ (fun _ => ?_))
      | exact ih0 _ _ _ _ _
      | exact ih1 _
      | exact ih2 _ _ _ _ _
      | exact ih3 _ _ _
      | exact ih4 _
      | exact impl_shapeOk.mono _ _ _ _ _ _
      | exact LeO.none _
      | refine LeO.ite ?_ ?_
      | refine LeO.bind ?_ (fun _ => ?_)
    · intro y0
      unfold impl_Node_130.f
      repeat' first
      | (with_reducible exact ih0 _ _ _ _ _)
      | (with_reducible exact ih1 _)
      | (with_reducible exact ih2 _ _ _ _ _)
      | (with_reducible exact ih3 _ _ _)
      | (with_reducible exact ih4 _)
      | (with_reducible exact impl_shapeOk.mono _ _ _ _ _ _)
      | (with_reducible exact LeO.refl _)
      | (with_reducible exact LeO.none _)
      | (with_reducible refine LeO.ite ?_ ?_)
      | (with_reducible refine LeO.bind ?_ (fun _ => ?_))
      | exact ih0 _ _ _ _ _
      | exact ih1 _
      | exact ih2 _ _ _ _ _
      | exact ih3 _ _ _
      | exact ih4 _
      | exact impl_shapeOk.mono _ _ _ _ _ _
      | exact LeO.none _
      | refine LeO.ite ?_ ?_
      | refine LeO.bind ?_ (fun _ => ?_)
    · intro y0 y1 y2 y3 y4
      unfold impl_allShapes_1.f
      repeat' first
      | (with_reducible exact ih0 _ _ _ _ _)
      | (with_reducible exact ih1 _)
      | (with_reducible exact ih2 _ _ _ _ _)
      | (with_reducible exact ih3 _ _ _)
      | (with_reducible exact ih4 _)
      | (with_reducible exact impl_shapeOk.mono _ _ _ _ _ _)
      | (with_reducible exact LeO.refl _)
      | (with_reducible exact LeO.none _)
      | (with_reducible refine LeO.ite ?_ ?_)
      | (with_reducible refine LeO.bind ?_ (fun _ => ?_))
      | exact ih0 _ _ _ _ _
      | exact ih1 _
      | exact ih2 _ _ _ _ _
      | exact ih3 _ _ _
      | exact ih4 _
      | exact impl_shapeOk.mono _ _ _ _ _ _
      | exact LeO.none _
      | refine LeO.ite ?_ ?_
      | refine LeO.bind ?_ (fun _ => ?_)
    · intro y0 y1 y2
      unfold impl_Node_148.l0
      repeat' first
      | (with_reducible exact ih0 _ _ _ _ _)
      | (with_reducible exact ih1 _)
      | (with_reducible exact ih2 _ _ _ _ _)
      | (with_reducible exact ih3 _ _ _)
      | (with_reducible exact ih4 _)
      | (with_reducible exact impl_shapeOk.mono _ _ _ _ _ _)
      | (with_reducible exact LeO.refl _)
      | (with_reducible exact LeO.none _)
      | (with_reducible refine LeO.ite ?_ ?_)
      | (with_reducible refine LeO.bind ?_ (fun _ => ?_))
      | exact ih0 _ _ _ _ _
      | exact ih1 _
      | exact ih2 _ _ _ _ _
      | exact ih3 _ _ _
      | exact ih4 _
      | exact impl_shapeOk.mono _ _ _ _ _ _
      | exact LeO.none _
      | refine LeO.ite ?_ ?_
      | refine LeO.bind ?_ (fun _ => ?_)
    · intro y0
      unfold impl_Node_148.f
      repeat' first
      | (with_reducible exact ih0 _ _ _ _ _)
      | (with_reducible exact ih1 _)
      | (with_reducible exact ih2 _ _ _ _ _)
      | (with_reducible exact ih3 _ _ _)
      | (with_reducible exact ih4 _)
      | (with_reducible exact impl_shapeOk.mono _ _ _ _ _ _)
      | (with_reducible exact LeO.refl _)
      | (with_reducible exact LeO.none _)
      | (with_reducible refine LeO.ite ?_ ?_)
      | (with_reducible refine LeO.bind ?_ (fun _ => ?_))
      | exact ih0 _ _ _ _ _
      | exact ih1 _
      | exact ih2 _ _ _ _ _
      | exact ih3 _ _ _
      | exact ih4 _
      | exact impl_shapeOk.mono _ _ _ _ _ _
      | exact LeO.none _
      | refine LeO.ite ?_ ?_
      | refine LeO.bind ?_ (fun _ => ?_)
theorem impl_allShapes.mono : ∀ a0 a1 a2 a3 a4 k, LeO (impl_allShapes.f k a0 a1 a2 a3 a4) (impl_allShapes.f (k + 1) a0 a1 a2 a3 a4) := by
  intro a0 a1 a2 a3 a4 k
  obtain ⟨ih0, ih1, ih2, ih3, ih4⟩ := impl_allShapes.mono_l k
  exact ih0 a0 a1 a2 a3 a4
theorem impl_Node_130.mono : ∀ a0 k, LeO (impl_Node_130.f k a0) (impl_Node_130.f (k + 1) a0) := by
  intro a0 k
  obtain ⟨ih0, ih1, ih2, ih3, ih4⟩ := impl_allShapes.mono_l k
  exact ih1 a0
theorem impl_allShapes_1.mono : ∀ a0 a1 a2 a3 a4 k, LeO (impl_allShapes_1.f k a0 a1 a2 a3 a4) (impl_allShapes_1.f (k + 1) a0 a1 a2 a3 a4) := by
  intro a0 a1 a2 a3 a4 k
  obtain ⟨ih0, ih1, ih2, ih3, ih4⟩ := impl_allShapes.mono_l k
  exact ih2 a0 a1 a2 a3 a4
theorem impl_Node_148.mono : ∀ a0 k, LeO (impl_Node_148.f k a0) (impl_Node_148.f (k + 1) a0) := by
  intro a0 k
  obtain ⟨ih0, ih1, ih2, ih3, ih4⟩ := impl_allShapes.mono_l k
  exact ih4 a0

set_option maxHeartbeats 8000000 in
set_option maxRecDepth 100000 in
theorem impl_allShapes.calls_all (k : Nat) : (∀ (a0_0 : Int) (a0_1 : Int) (a0_2 : ByteArray) (A0_3 : Option Addr) (c0_3 : Nat) (l0_3 : List ByteArray) (A0_4 : Option Addr) (c0_4 : Nat) (l0_4 : List (S25)) (r : Bool) (w : World) (hr0_3 : Kd.C Kd.string w A0_3 l0_3.length l0_3) (hc0_3 : l0_3.length ≤ c0_3) (hr0_4 : Kd.C k25 w A0_4 l0_4.length l0_4) (hc0_4 : l0_4.length ≤ c0_4) (h : impl_allShapes.f k a0_0 a0_1 a0_2 l0_3 l0_4 = some r),
    Calls Try.prog 95 #[.agg #[.int .i64 a0_0, .int .i64 a0_1, .string a0_2, .slice A0_3 l0_3.length c0_3, .slice A0_4 l0_4.length c0_4]] w fun e w' => e = .returned (.bool r) ∧ Below w.heap.size w w') ∧ (∀ (A0 : Option Addr) (c0 : Nat) (l0 : List (S25))  (r : Bool) (w : World) (hr0 : Kd.C k25 w A0 l0.length l0) (hc0 : l0.length ≤ c0) (h : impl_Node_130.f k l0 = some r),
    Calls Try.prog 130 #[.slice A0 l0.length c0, .func (.func 131) #[] #[]] w fun e w' => e = .returned (.bool r) ∧ Below w.heap.size w w') ∧ (∀ (a0_0 : Int) (a0_1 : Int) (a0_2 : ByteArray) (A0_3 : Option Addr) (c0_3 : Nat) (l0_3 : List ByteArray) (A0_4 : Option Addr) (c0_4 : Nat) (l0_4 : List (S25)) (r : Bool) (w : World) (hr0_3 : Kd.C Kd.string w A0_3 l0_3.length l0_3) (hc0_3 : l0_3.length ≤ c0_3) (hr0_4 : Kd.C k25 w A0_4 l0_4.length l0_4) (hc0_4 : l0_4.length ≤ c0_4) (h : impl_allShapes_1.f k a0_0 a0_1 a0_2 l0_3 l0_4 = some r),
    Calls Try.prog 131 #[.agg #[.int .i64 a0_0, .int .i64 a0_1, .string a0_2, .slice A0_3 l0_3.length c0_3, .slice A0_4 l0_4.length c0_4]] w fun e w' => e = .returned (.bool r) ∧ Below w.heap.size w w') ∧ (∀ (A0 : Option Addr) (c0 : Nat) (l0 : List (S25))  (r : Int) (w : World) (hr0 : Kd.C k25 w A0 l0.length l0) (hc0 : l0.length ≤ c0) (h : impl_Node_148.f k l0 = some r),
    Calls Try.prog 148 #[.slice A0 l0.length c0, .func (.func 131) #[] #[]] w fun e w' => e = .returned (.int .i64 r) ∧ Below w.heap.size w w') := by
  induction k using Nat.strongRecOn with
  | _ k ihall =>
  have ih_impl_allShapes := fun k' h' => (ihall k' h').1
  have ih_impl_Node_130 := fun k' h' => (ihall k' h').2.1
  have ih_impl_allShapes_1 := fun k' h' => (ihall k' h').2.2.1
  have ih_impl_Node_148 := fun k' h' => (ihall k' h').2.2.2
  clear ihall
  refine ⟨?_, ?_, ?_, ?_⟩
  · skip
    intro a0_0 a0_1 a0_2 A0_3 c0_3 l0_3 A0_4 c0_4 l0_4 r w hr0_3 hc0_3 hr0_4 hc0_4 h
    cases k with
    | zero => exact absurd h (by simp [impl_allShapes.f])
    | succ k =>
    simp only [impl_allShapes.f] at h
    have hu25 := Try.underlying25
    have HR0_3 := Aside0.mk hr0_3
    have HC0_3 := Aside0.mk hc0_3
    clear hr0_3 hc0_3
    have HR0_4 := Aside0.mk hr0_4
    have HC0_4 := Aside0.mk hc0_4
    clear hr0_4 hc0_4
    have HB := Aside0.mk (Below.refl w.heap.size w)
    have H : ((impl_shapeOk.f k a0_0 a0_1 a0_2 l0_3 l0_4).bind fun t771 => (if t771 = true then ((impl_Node_130.f k l0_4).bind fun t772 => (some (!t772))) else (some false))) = some r := h
    clear h
    replace H := Option.bind_eq_some_iff.mp H
    obtain ⟨t771, A20, H⟩ := H
    replace H : (if t771 = true then ((impl_Node_130.f k l0_4).bind fun t772 => (some (!t772))) else (some false)) = some r := H
    have A2 := Aside0.mk A20
    clear A20
    by_cases c3 : t771 = true
    · subst c3
      have H1 : ((impl_Node_130.f k l0_4).bind fun t772 => (some (!t772))) = some r := by rw [if_pos rfl] at H; exact H
      clear H
      have H := H1
      clear H1
      replace H := Option.bind_eq_some_iff.mp H
      obtain ⟨t772, A40, H⟩ := H
      replace H : (some (!t772)) = some r := H
      have A4 := Aside0.mk A40
      clear A40
      obtain rfl := Option.some.inj H
      go_enter Try.func95, Try.ntmps95
      go_wp2_with (first | ((with_reducible refine gate_dst (N := 1) rfl ?_); refine box_event ?hg (N := 1) ?hd (cs := #[.int .i64 a0_0, .int .i64 a0_1, .string a0_2, .slice A0_3 l0_3.length c0_3, .slice A0_4 l0_4.length c0_4]) (t := 25) ?hr ?_; (case hd => rfl); (case hg => rfl); (case hr => first | (go_simp; done) | (go_simp; rfl)); intro gb770 hg w5 hbox hb; have n0_ := Aside0.mk (below_step (by repeat (first | (with_reducible first | exact HB.out | apply below_alloc | apply pw_below_drewN | apply below_drew1) | exact HB.out)) hb); have n1_ := Aside0.mk (hbox); have n2_ := Aside0.mk ((by rw [hg]; exact (below_size (by repeat (first | (with_reducible first | exact HB.out | apply below_alloc | apply pw_below_drewN | apply below_drew1) | exact HB.out))) : w.heap.size ≤ gb770)); have n3_ := Aside0.mk ((by rw [hg]; exact (below_size (by repeat (first | (with_reducible first | exact HB.out | apply below_alloc | apply pw_below_drewN | apply below_drew1) | exact HB.out))) : w.heap.size ≤ gb770)); clear HB; have HB := n0_; have BK770 := n1_; have GW770 := n2_; have GE770 := n3_; clear n0_ n1_ n2_ n3_; clear hb hbox hg; have hcz6_0 : w5.cell? ⟨gb770, 0, none⟩ = some (.int .i64 a0_0) := (blk_cell BK770.out 0).trans rfl; have hcz6_1 : w5.cell? ⟨gb770, 1, none⟩ = some (.int .i64 a0_1) := (blk_cell BK770.out 1).trans rfl; have hcz6_2 : w5.cell? ⟨gb770, 2, none⟩ = some (.string a0_2) := (blk_cell BK770.out 2).trans rfl; have hcz6_3 : w5.cell? ⟨gb770, 3, none⟩ = some (.slice A0_3 l0_3.length c0_3) := (blk_cell BK770.out 3).trans rfl; have hcz6_4 : w5.cell? ⟨gb770, 4, none⟩ = some (.slice A0_4 l0_4.length c0_4) := (blk_cell BK770.out 4).trans rfl; have hfz6_0 := blk_frozen BK770.out 0; have hfz6_1 := blk_frozen BK770.out 1; have hfz6_2 := blk_frozen BK770.out 2; have hfz6_3 := blk_frozen BK770.out 3; have hfz6_4 := blk_frozen BK770.out 4) | ((with_reducible refine gate_callee (f := 129) rfl ?_); refine goesL_ (some 4) rfl rfl Try.func129 (by kernel_rfl) rfl #[.agg #[.int .i64 a0_0, .int .i64 a0_1, .string a0_2, .slice A0_3 l0_3.length c0_3, .slice A0_4 l0_4.length c0_4]] rfl (by (try simp only [List.map_toArray, List.map_cons, List.map_nil]); first | done | rfl | (simp only [List.length_drop, List.length_take]; rfl)) ?_; (with_reducible refine (impl_shapeOk.calls k a0_0 a0_1 a0_2 _ _ l0_3 _ _ l0_4 true _ ?side1 ?side2 ?side3 ?side4 A2.out).mono ?_); (case side1 => repeat (first | exact (Kd.C_below HR0_3.out HB.out) | (with_reducible refine Kd.C_alloc ?_ _) | (with_reducible refine Kd.C_drewN ?_ _) | (with_reducible refine Kd.C_drew ?_))); (case side2 => exact HC0_3.out); (case side3 => repeat (first | exact (Kd.C_below HR0_4.out HB.out) | (with_reducible refine Kd.C_alloc ?_ _) | (with_reducible refine Kd.C_drewN ?_ _) | (with_reducible refine Kd.C_drew ?_))); (case side4 => exact HC0_4.out); rintro e w7 ⟨rfl, hb⟩; refine ⟨_, rfl, ?_⟩; have n0_ := Aside0.mk (blk_below (g := gb770) (o := .cells #[.int .i64 a0_0, .int .i64 a0_1, .string a0_2, .slice A0_3 l0_3.length c0_3, .slice A0_4 l0_4.length c0_4] 25 (0, 0)) (by (with_reducible repeat (first | refine blk_drewN ?_ _ | refine blk_drew ?_ | refine blk_alloc ?_ _)); exact BK770.out) hb); have n1_ := Aside0.mk (below_step (by repeat (first | (with_reducible first | exact HB.out | apply below_alloc | apply pw_below_drewN | apply below_drew1 | refine below_set ?_ GE770.out) | exact HB.out)) hb); clear BK770; clear HB; have BK770 := n0_; have HB := n1_; clear n0_ n1_; (try clear hb); (try clear hb2); (try clear hk); (try clear hi); have hcz8_0 : w7.cell? ⟨gb770, 0, none⟩ = some (.int .i64 a0_0) := (blk_cell BK770.out 0).trans rfl; have hcz8_1 : w7.cell? ⟨gb770, 1, none⟩ = some (.int .i64 a0_1) := (blk_cell BK770.out 1).trans rfl; have hcz8_2 : w7.cell? ⟨gb770, 2, none⟩ = some (.string a0_2) := (blk_cell BK770.out 2).trans rfl; have hcz8_3 : w7.cell? ⟨gb770, 3, none⟩ = some (.slice A0_3 l0_3.length c0_3) := (blk_cell BK770.out 3).trans rfl; have hcz8_4 : w7.cell? ⟨gb770, 4, none⟩ = some (.slice A0_4 l0_4.length c0_4) := (blk_cell BK770.out 4).trans rfl; have hfz8_0 := blk_frozen BK770.out 0; have hfz8_1 := blk_frozen BK770.out 1; have hfz8_2 := blk_frozen BK770.out 2; have hfz8_3 := blk_frozen BK770.out 3; have hfz8_4 := blk_frozen BK770.out 4) | (go_at_call 130; (with_reducible refine (ih_impl_Node_130 k (by omega) _ _ l0_4  t772 _ ?side1 ?side2 A4.out).mono ?_); (case side1 => repeat (first | exact (Kd.C_below HR0_4.out HB.out) | (with_reducible refine Kd.C_alloc ?_ _) | (with_reducible refine Kd.C_drewN ?_ _) | (with_reducible refine Kd.C_drew ?_))); (case side2 => exact HC0_4.out); rintro e w9 ⟨rfl, hb⟩; have n0_ := Aside0.mk (blk_below (g := gb770) (o := .cells #[.int .i64 a0_0, .int .i64 a0_1, .string a0_2, .slice A0_3 l0_3.length c0_3, .slice A0_4 l0_4.length c0_4] 25 (0, 0)) (by (with_reducible repeat (first | refine blk_drewN ?_ _ | refine blk_drew ?_ | refine blk_alloc ?_ _)); exact BK770.out) hb); have n1_ := Aside0.mk (below_step (by repeat (first | (with_reducible first | exact HB.out | apply below_alloc | apply pw_below_drewN | apply below_drew1 | refine below_set ?_ GE770.out) | exact HB.out)) hb); clear BK770; clear HB; have BK770 := n0_; have HB := n1_; clear n0_ n1_; (try clear hb); (try clear hb2); (try clear hk); (try clear hi)))
      go_ret
      exact ⟨by first | rfl | (simp [errW_none, errW_some] <;> rfl) | (simp [*, errW_none, errW_some] <;> rfl), by repeat (first | (with_reducible first | exact HB.out | apply below_alloc | apply pw_below_drewN | apply below_drew1 | refine below_set ?_ GE770.out) | exact HB.out)⟩
    · replace c3 := Bool.eq_false_iff.mpr c3
      subst c3
      have H1 : (some false) = some r := by rw [if_neg (show ¬ (false = true) by decide)] at H; exact H
      clear H
      have H := H1
      clear H1
      obtain rfl := Option.some.inj H
      go_enter Try.func95, Try.ntmps95
      go_wp2_with (first | ((with_reducible refine gate_dst (N := 1) rfl ?_); refine box_event ?hg (N := 1) ?hd (cs := #[.int .i64 a0_0, .int .i64 a0_1, .string a0_2, .slice A0_3 l0_3.length c0_3, .slice A0_4 l0_4.length c0_4]) (t := 25) ?hr ?_; (case hd => rfl); (case hg => rfl); (case hr => first | (go_simp; done) | (go_simp; rfl)); intro gb770 hg w10 hbox hb; have n0_ := Aside0.mk (below_step (by repeat (first | (with_reducible first | exact HB.out | apply below_alloc | apply pw_below_drewN | apply below_drew1) | exact HB.out)) hb); have n1_ := Aside0.mk (hbox); have n2_ := Aside0.mk ((by rw [hg]; exact (below_size (by repeat (first | (with_reducible first | exact HB.out | apply below_alloc | apply pw_below_drewN | apply below_drew1) | exact HB.out))) : w.heap.size ≤ gb770)); have n3_ := Aside0.mk ((by rw [hg]; exact (below_size (by repeat (first | (with_reducible first | exact HB.out | apply below_alloc | apply pw_below_drewN | apply below_drew1) | exact HB.out))) : w.heap.size ≤ gb770)); clear HB; have HB := n0_; have BK770 := n1_; have GW770 := n2_; have GE770 := n3_; clear n0_ n1_ n2_ n3_; clear hb hbox hg; have hcz11_0 : w10.cell? ⟨gb770, 0, none⟩ = some (.int .i64 a0_0) := (blk_cell BK770.out 0).trans rfl; have hcz11_1 : w10.cell? ⟨gb770, 1, none⟩ = some (.int .i64 a0_1) := (blk_cell BK770.out 1).trans rfl; have hcz11_2 : w10.cell? ⟨gb770, 2, none⟩ = some (.string a0_2) := (blk_cell BK770.out 2).trans rfl; have hcz11_3 : w10.cell? ⟨gb770, 3, none⟩ = some (.slice A0_3 l0_3.length c0_3) := (blk_cell BK770.out 3).trans rfl; have hcz11_4 : w10.cell? ⟨gb770, 4, none⟩ = some (.slice A0_4 l0_4.length c0_4) := (blk_cell BK770.out 4).trans rfl; have hfz11_0 := blk_frozen BK770.out 0; have hfz11_1 := blk_frozen BK770.out 1; have hfz11_2 := blk_frozen BK770.out 2; have hfz11_3 := blk_frozen BK770.out 3; have hfz11_4 := blk_frozen BK770.out 4) | ((with_reducible refine gate_callee (f := 129) rfl ?_); refine goesL_ (some 4) rfl rfl Try.func129 (by kernel_rfl) rfl #[.agg #[.int .i64 a0_0, .int .i64 a0_1, .string a0_2, .slice A0_3 l0_3.length c0_3, .slice A0_4 l0_4.length c0_4]] rfl (by (try simp only [List.map_toArray, List.map_cons, List.map_nil]); first | done | rfl | (simp only [List.length_drop, List.length_take]; rfl)) ?_; (with_reducible refine (impl_shapeOk.calls k a0_0 a0_1 a0_2 _ _ l0_3 _ _ l0_4 false _ ?side1 ?side2 ?side3 ?side4 A2.out).mono ?_); (case side1 => repeat (first | exact (Kd.C_below HR0_3.out HB.out) | (with_reducible refine Kd.C_alloc ?_ _) | (with_reducible refine Kd.C_drewN ?_ _) | (with_reducible refine Kd.C_drew ?_))); (case side2 => exact HC0_3.out); (case side3 => repeat (first | exact (Kd.C_below HR0_4.out HB.out) | (with_reducible refine Kd.C_alloc ?_ _) | (with_reducible refine Kd.C_drewN ?_ _) | (with_reducible refine Kd.C_drew ?_))); (case side4 => exact HC0_4.out); rintro e w12 ⟨rfl, hb⟩; refine ⟨_, rfl, ?_⟩; have n0_ := Aside0.mk (blk_below (g := gb770) (o := .cells #[.int .i64 a0_0, .int .i64 a0_1, .string a0_2, .slice A0_3 l0_3.length c0_3, .slice A0_4 l0_4.length c0_4] 25 (0, 0)) (by (with_reducible repeat (first | refine blk_drewN ?_ _ | refine blk_drew ?_ | refine blk_alloc ?_ _)); exact BK770.out) hb); have n1_ := Aside0.mk (below_step (by repeat (first | (with_reducible first | exact HB.out | apply below_alloc | apply pw_below_drewN | apply below_drew1 | refine below_set ?_ GE770.out) | exact HB.out)) hb); clear BK770; clear HB; have BK770 := n0_; have HB := n1_; clear n0_ n1_; (try clear hb); (try clear hb2); (try clear hk); (try clear hi)))
      go_ret
      exact ⟨by first | rfl | (simp [errW_none, errW_some] <;> rfl) | (simp [*, errW_none, errW_some] <;> rfl), by repeat (first | (with_reducible first | exact HB.out | apply below_alloc | apply pw_below_drewN | apply below_drew1 | refine below_set ?_ GE770.out) | exact HB.out)⟩
  · skip
    intro A0 c0 l0 r w hr0 hc0 h
    cases k with
    | zero => exact absurd h (by simp [impl_Node_130.f])
    | succ k =>
    simp only [impl_Node_130.f] at h
    have HR0 := Aside0.mk hr0
    have HC0 := Aside0.mk hc0
    clear hr0 hc0
    have HB := Aside0.mk (Below.refl w.heap.size w)
    have H : ((impl_Node_148.f k l0).bind fun t773 => (some (decide (t773 ≥ 0)))) = some r := h
    clear h
    replace H := Option.bind_eq_some_iff.mp H
    obtain ⟨t773, A30, H⟩ := H
    replace H : (some (decide (t773 ≥ 0))) = some r := H
    have A3 := Aside0.mk A30
    clear A30
    obtain rfl := Option.some.inj H
    go_enter Try.func130, Try.ntmps130
    go_wp2_with (first | ((with_reducible refine gate_callee (f := 148) rfl ?_); refine goesL_ (some 7) rfl rfl Try.func148 (by kernel_rfl) rfl #[.slice A0 l0.length c0, .func (.func 131) #[] #[]] rfl (by (try simp only [List.map_toArray, List.map_cons, List.map_nil]); first | done | rfl | (simp only [List.length_drop, List.length_take]; rfl)) ?_; (with_reducible refine (ih_impl_Node_148 k (by omega) _ _ l0  t773 _ ?side1 ?side2 A3.out).mono ?_); (case side1 => repeat (first | exact HR0.out | (with_reducible refine Kd.C_alloc ?_ _) | (with_reducible refine Kd.C_drewN ?_ _) | (with_reducible refine Kd.C_drew ?_))); (case side2 => exact HC0.out); rintro e w4 ⟨rfl, hb⟩; refine ⟨_, rfl, ?_⟩; have n0_ := Aside0.mk (below_step (by repeat (first | (with_reducible first | exact HB.out | apply below_alloc | apply pw_below_drewN | apply below_drew1) | exact HB.out)) hb); clear HB; have HB := n0_; clear n0_; (try clear hb); (try clear hb2); (try clear hk); (try clear hi)))
    go_ret
    exact ⟨by first | rfl | (simp [errW_none, errW_some] <;> rfl) | (simp [*, errW_none, errW_some] <;> rfl), by repeat (first | (with_reducible first | exact HB.out | apply below_alloc | apply pw_below_drewN | apply below_drew1) | exact HB.out)⟩
  · skip
    intro a0_0 a0_1 a0_2 A0_3 c0_3 l0_3 A0_4 c0_4 l0_4 r w hr0_3 hc0_3 hr0_4 hc0_4 h
    cases k with
    | zero => exact absurd h (by simp [impl_allShapes_1.f])
    | succ k =>
    simp only [impl_allShapes_1.f] at h
    have hu25 := Try.underlying25
    have HR0_3 := Aside0.mk hr0_3
    have HC0_3 := Aside0.mk hc0_3
    clear hr0_3 hc0_3
    have HR0_4 := Aside0.mk hr0_4
    have HC0_4 := Aside0.mk hc0_4
    clear hr0_4 hc0_4
    have HB := Aside0.mk (Below.refl w.heap.size w)
    have H : ((impl_allShapes.f k a0_0 a0_1 a0_2 l0_3 l0_4).bind fun t775 => (some (!t775))) = some r := h
    clear h
    replace H := Option.bind_eq_some_iff.mp H
    obtain ⟨t775, A20, H⟩ := H
    replace H : (some (!t775)) = some r := H
    have A2 := Aside0.mk A20
    clear A20
    obtain rfl := Option.some.inj H
    go_enter Try.func131, Try.ntmps131
    go_wp2_with (first | ((with_reducible refine gate_dst (N := 1) rfl ?_); refine box_event ?hg (N := 1) ?hd (cs := #[.int .i64 a0_0, .int .i64 a0_1, .string a0_2, .slice A0_3 l0_3.length c0_3, .slice A0_4 l0_4.length c0_4]) (t := 25) ?hr ?_; (case hd => rfl); (case hg => rfl); (case hr => first | (go_simp; done) | (go_simp; rfl)); intro gb774 hg w3 hbox hb; have n0_ := Aside0.mk (below_step (by repeat (first | (with_reducible first | exact HB.out | apply below_alloc | apply pw_below_drewN | apply below_drew1) | exact HB.out)) hb); have n1_ := Aside0.mk (hbox); have n2_ := Aside0.mk ((by rw [hg]; exact (below_size (by repeat (first | (with_reducible first | exact HB.out | apply below_alloc | apply pw_below_drewN | apply below_drew1) | exact HB.out))) : w.heap.size ≤ gb774)); have n3_ := Aside0.mk ((by rw [hg]; exact (below_size (by repeat (first | (with_reducible first | exact HB.out | apply below_alloc | apply pw_below_drewN | apply below_drew1) | exact HB.out))) : w.heap.size ≤ gb774)); clear HB; have HB := n0_; have BK774 := n1_; have GW774 := n2_; have GE774 := n3_; clear n0_ n1_ n2_ n3_; clear hb hbox hg; have hcz4_0 : w3.cell? ⟨gb774, 0, none⟩ = some (.int .i64 a0_0) := (blk_cell BK774.out 0).trans rfl; have hcz4_1 : w3.cell? ⟨gb774, 1, none⟩ = some (.int .i64 a0_1) := (blk_cell BK774.out 1).trans rfl; have hcz4_2 : w3.cell? ⟨gb774, 2, none⟩ = some (.string a0_2) := (blk_cell BK774.out 2).trans rfl; have hcz4_3 : w3.cell? ⟨gb774, 3, none⟩ = some (.slice A0_3 l0_3.length c0_3) := (blk_cell BK774.out 3).trans rfl; have hcz4_4 : w3.cell? ⟨gb774, 4, none⟩ = some (.slice A0_4 l0_4.length c0_4) := (blk_cell BK774.out 4).trans rfl; have hfz4_0 := blk_frozen BK774.out 0; have hfz4_1 := blk_frozen BK774.out 1; have hfz4_2 := blk_frozen BK774.out 2; have hfz4_3 := blk_frozen BK774.out 3; have hfz4_4 := blk_frozen BK774.out 4) | ((with_reducible refine gate_callee (f := 95) rfl ?_); refine goesL_ (some 4) rfl rfl Try.func95 (by kernel_rfl) rfl #[.agg #[.int .i64 a0_0, .int .i64 a0_1, .string a0_2, .slice A0_3 l0_3.length c0_3, .slice A0_4 l0_4.length c0_4]] rfl (by (try simp only [List.map_toArray, List.map_cons, List.map_nil]); first | done | rfl | (simp only [List.length_drop, List.length_take]; rfl)) ?_; (with_reducible refine (ih_impl_allShapes k (by omega) a0_0 a0_1 a0_2 _ _ l0_3 _ _ l0_4 t775 _ ?side1 ?side2 ?side3 ?side4 A2.out).mono ?_); (case side1 => repeat (first | exact (Kd.C_below HR0_3.out HB.out) | (with_reducible refine Kd.C_alloc ?_ _) | (with_reducible refine Kd.C_drewN ?_ _) | (with_reducible refine Kd.C_drew ?_))); (case side2 => exact HC0_3.out); (case side3 => repeat (first | exact (Kd.C_below HR0_4.out HB.out) | (with_reducible refine Kd.C_alloc ?_ _) | (with_reducible refine Kd.C_drewN ?_ _) | (with_reducible refine Kd.C_drew ?_))); (case side4 => exact HC0_4.out); rintro e w5 ⟨rfl, hb⟩; refine ⟨_, rfl, ?_⟩; have n0_ := Aside0.mk (blk_below (g := gb774) (o := .cells #[.int .i64 a0_0, .int .i64 a0_1, .string a0_2, .slice A0_3 l0_3.length c0_3, .slice A0_4 l0_4.length c0_4] 25 (0, 0)) (by (with_reducible repeat (first | refine blk_drewN ?_ _ | refine blk_drew ?_ | refine blk_alloc ?_ _)); exact BK774.out) hb); have n1_ := Aside0.mk (below_step (by repeat (first | (with_reducible first | exact HB.out | apply below_alloc | apply pw_below_drewN | apply below_drew1 | refine below_set ?_ GE774.out) | exact HB.out)) hb); clear BK774; clear HB; have BK774 := n0_; have HB := n1_; clear n0_ n1_; (try clear hb); (try clear hb2); (try clear hk); (try clear hi)))
    go_ret
    exact ⟨by first | rfl | (simp [errW_none, errW_some] <;> rfl) | (simp [*, errW_none, errW_some] <;> rfl), by repeat (first | (with_reducible first | exact HB.out | apply below_alloc | apply pw_below_drewN | apply below_drew1 | refine below_set ?_ GE774.out) | exact HB.out)⟩
  · skip
    intro A0 c0 l0 r w hr0 hc0 h
    cases k with
    | zero => exact absurd h (by simp [impl_Node_148.f])
    | succ k =>
    simp only [impl_Node_148.f] at h
    have hu25 := Try.underlying25
    have HR0 := Aside0.mk hr0
    have HC0 := Aside0.mk hc0
    clear hr0 hc0
    have HB := Aside0.mk (Below.refl w.heap.size w)
    have H : (impl_Node_148.l0 k l0 (l0.length : Int) 0) = some r := h
    clear h
    have H' := Aside0.mk H
    clear H
    go_enter Try.func148, Try.ntmps148
    go_wp2
    go_loopg [8] k (fun kq v8 w' => ∃ (x8_1 : Int), v8 = .int .i64 x8_1 ∧ Aside0 (impl_Node_148.l0 kq l0 (l0.length : Int) x8_1 = some r) ∧ Aside0 (kq ≤ k) ∧ Aside0 (Below w.heap.size w w'))
    case atStart => exact ⟨(0), (by first | rfl | (simp; done) | (simp [*]; done)), H', ⟨Nat.le_refl _⟩, ⟨by repeat (first | (with_reducible first | exact HB.out | apply below_alloc | apply pw_below_drewN | apply below_drew1) | exact HB.out)⟩⟩
    case round =>
      clear H'
      try clear c1
      try clear p2
      obtain ⟨x8_1, rfl, HA, HK1, HB⟩ := hrel
      cases gk with
      | zero => exact absurd HA.out (by simp [impl_Node_148.l0])
      | succ k1 =>
        have H := HA.out
        clear HA
        simp only [impl_Node_148.l0] at H
        by_cases c3 : x8_1 < (l0.length : Int)
        · rw [if_pos c3] at H
          have c3b0 : decide (x8_1 < (l0.length : Int)) = true := decide_eq_true c3
          clear c3
          by_cases c4 : 0 ≤ x8_1
          · rw [if_pos c4] at H
            have c4b0 : decide (0 ≤ x8_1) = true := decide_eq_true c4
            clear c4
            by_cases c5 : x8_1 < (l0.length : Int)
            · rw [if_pos c5] at H
              have c5b0 : decide (x8_1 < (l0.length : Int)) = true := decide_eq_true c5
              clear c5
              replace H := Option.bind_eq_some_iff.mp H
              obtain ⟨t777, A60, H⟩ := H
              replace H : (if t777 = true then (some x8_1) else (impl_Node_148.l0 k1 l0 (l0.length : Int) (wrap64 (x8_1 + 1)))) = some r := H
              have A6 := Aside0.mk A60
              clear A60
              have HC7 := Aside0.mk H
              clear H
              have p776 : 0 ≤ (x8_1 : Int) := of_decide_eq_true (by first | (with_reducible assumption) | assumption)
              have q776 : x8_1 < (l0.length : Int) := of_decide_eq_true (by first | (with_reducible assumption) | assumption)
              obtain ⟨ad776, A776_3, c776_3, A776_4, c776_4, e776, hx776_0, hx776_1, hx776_2, hx776_3, hx776_4, hl776_3, hi776_3, hl776_4, hi776_4⟩ := at_T25 HR0.out x8_1 p776 q776
              cases e776
              replace hx776_0 := (HB.out.cell (World.block_lt_of_cell? w _ hx776_0)).trans hx776_0
              replace hx776_1 := (HB.out.cell (World.block_lt_of_cell? w _ hx776_1)).trans hx776_1
              replace hx776_2 := (HB.out.cell (World.block_lt_of_cell? w _ hx776_2)).trans hx776_2
              replace hx776_3 := (HB.out.cell (World.block_lt_of_cell? w _ hx776_3)).trans hx776_3
              replace hx776_4 := (HB.out.cell (World.block_lt_of_cell? w _ hx776_4)).trans hx776_4
              have HR776_3 := Aside0.mk hi776_3
              have HC776_3 := Aside0.mk hl776_3
              clear hi776_3 hl776_3
              have HR776_4 := Aside0.mk hi776_4
              have HC776_4 := Aside0.mk hl776_4
              clear hi776_4 hl776_4
              replace p776 := eq_true p776
              replace q776 := eq_true q776
              go_upto_if 16 with (first | ((with_reducible refine gate_calleeV (c := .tmp 11) rfl ?_); refine goesLV_ (c := .tmp 11) (some 16) rfl rfl Try.func131 (by kernel_rfl) rfl #[.agg #[.int .i64 ((rd_T25 l0 x8_1).f0), .int .i64 ((rd_T25 l0 x8_1).f1), .string ((rd_T25 l0 x8_1).f2), .slice A776_3 ((rd_T25 l0 x8_1).f3).length c776_3, .slice A776_4 ((rd_T25 l0 x8_1).f4).length c776_4]] rfl (by (try simp only [List.map_toArray, List.map_cons, List.map_nil]); first | done | rfl | (simp only [List.length_drop, List.length_take]; rfl)) ?_; (with_reducible refine (ih_impl_allShapes_1 k1 (by have := HK1.out; omega) ((rd_T25 l0 x8_1).f0) ((rd_T25 l0 x8_1).f1) ((rd_T25 l0 x8_1).f2) _ _ ((rd_T25 l0 x8_1).f3) _ _ ((rd_T25 l0 x8_1).f4) t777 _ ?side1 ?side2 ?side3 ?side4 A6.out).mono ?_); (case side1 => repeat (first | exact (Kd.C_below HR776_3.out HB.out) | (with_reducible refine Kd.C_alloc ?_ _) | (with_reducible refine Kd.C_drewN ?_ _) | (with_reducible refine Kd.C_drew ?_))); (case side2 => exact HC776_3.out); (case side3 => repeat (first | exact (Kd.C_below HR776_4.out HB.out) | (with_reducible refine Kd.C_alloc ?_ _) | (with_reducible refine Kd.C_drewN ?_ _) | (with_reducible refine Kd.C_drew ?_))); (case side4 => exact HC776_4.out); rintro e w8 ⟨rfl, hb⟩; refine ⟨_, rfl, ?_⟩; have n0_ := Aside0.mk (below_step (by repeat (first | (with_reducible first | exact HB.out | apply below_alloc | apply pw_below_drewN | apply below_drew1) | exact HB.out)) hb); clear HB; have HB := n0_; clear n0_; (try clear hb); (try clear hb2); (try clear hk); (try clear hi)))
              (try simp only [Act.put, List.setIfInBounds_toArray, List.set_cons_zero, List.set_cons_succ])
              try clear hx776_0; try clear hx776_1; try clear hx776_2; try clear hx776_3; try clear hx776_4
              have H := HC7.out
              clear HC7
              by_cases c9 : t777 = true
              · subst c9
                have H1 : (some x8_1) = some r := by rw [if_pos rfl] at H; exact H
                clear H
                have H := H1
                clear H1
                obtain rfl := Option.some.inj H
                go_wp2
                go_ret
                exact ⟨by first | rfl | (simp [errW_none, errW_some] <;> rfl) | (simp [*, errW_none, errW_some] <;> rfl), by repeat (first | (with_reducible first | exact HB.out | apply below_alloc | apply pw_below_drewN | apply below_drew1) | exact HB.out)⟩
              · replace c9 := Bool.eq_false_iff.mpr c9
                subst c9
                have H1 : (impl_Node_148.l0 k1 l0 (l0.length : Int) (wrap64 (x8_1 + 1))) = some r := by rw [if_neg (show ¬ (false = true) by decide)] at H; exact H
                clear H
                have H := H1
                clear H1
                have H' := Aside0.mk H
                clear H
                go_wp2
                go_roundg k1
                case measure => have := HK1.out; omega
                case rel => exact ⟨(wrap64 (x8_1 + 1)), (by first | rfl | (simp; done) | (simp [*]; done)), H', ⟨by have := HK1.out; omega⟩, ⟨by repeat (first | (with_reducible first | exact HB.out | apply below_alloc | apply pw_below_drewN | apply below_drew1) | exact HB.out)⟩⟩
            · rw [if_neg c5] at H
              exact absurd H (by simp)
          · rw [if_neg c4] at H
            exact absurd H (by simp)
        · rw [if_neg c3] at H
          have c3b0 : decide (x8_1 < (l0.length : Int)) = false := decide_eq_false c3
          clear c3
          obtain rfl := Option.some.inj H
          go_wp2
          go_ret
          exact ⟨by first | rfl | (simp [errW_none, errW_some] <;> rfl) | (simp [*, errW_none, errW_some] <;> rfl), by repeat (first | (with_reducible first | exact HB.out | apply below_alloc | apply pw_below_drewN | apply below_drew1) | exact HB.out)⟩
theorem impl_allShapes.calls (k : Nat) : ∀ (a0_0 : Int) (a0_1 : Int) (a0_2 : ByteArray) (A0_3 : Option Addr) (c0_3 : Nat) (l0_3 : List ByteArray) (A0_4 : Option Addr) (c0_4 : Nat) (l0_4 : List (S25)) (r : Bool) (w : World) (hr0_3 : Kd.C Kd.string w A0_3 l0_3.length l0_3) (hc0_3 : l0_3.length ≤ c0_3) (hr0_4 : Kd.C k25 w A0_4 l0_4.length l0_4) (hc0_4 : l0_4.length ≤ c0_4) (h : impl_allShapes.f k a0_0 a0_1 a0_2 l0_3 l0_4 = some r),
    Calls Try.prog 95 #[.agg #[.int .i64 a0_0, .int .i64 a0_1, .string a0_2, .slice A0_3 l0_3.length c0_3, .slice A0_4 l0_4.length c0_4]] w fun e w' => e = .returned (.bool r) ∧ Below w.heap.size w w' := (impl_allShapes.calls_all k).1
theorem impl_Node_130.calls (k : Nat) : ∀ (A0 : Option Addr) (c0 : Nat) (l0 : List (S25))  (r : Bool) (w : World) (hr0 : Kd.C k25 w A0 l0.length l0) (hc0 : l0.length ≤ c0) (h : impl_Node_130.f k l0 = some r),
    Calls Try.prog 130 #[.slice A0 l0.length c0, .func (.func 131) #[] #[]] w fun e w' => e = .returned (.bool r) ∧ Below w.heap.size w w' := (impl_allShapes.calls_all k).2.1
theorem impl_allShapes_1.calls (k : Nat) : ∀ (a0_0 : Int) (a0_1 : Int) (a0_2 : ByteArray) (A0_3 : Option Addr) (c0_3 : Nat) (l0_3 : List ByteArray) (A0_4 : Option Addr) (c0_4 : Nat) (l0_4 : List (S25)) (r : Bool) (w : World) (hr0_3 : Kd.C Kd.string w A0_3 l0_3.length l0_3) (hc0_3 : l0_3.length ≤ c0_3) (hr0_4 : Kd.C k25 w A0_4 l0_4.length l0_4) (hc0_4 : l0_4.length ≤ c0_4) (h : impl_allShapes_1.f k a0_0 a0_1 a0_2 l0_3 l0_4 = some r),
    Calls Try.prog 131 #[.agg #[.int .i64 a0_0, .int .i64 a0_1, .string a0_2, .slice A0_3 l0_3.length c0_3, .slice A0_4 l0_4.length c0_4]] w fun e w' => e = .returned (.bool r) ∧ Below w.heap.size w w' := (impl_allShapes.calls_all k).2.2.1
theorem impl_Node_148.calls (k : Nat) : ∀ (A0 : Option Addr) (c0 : Nat) (l0 : List (S25))  (r : Int) (w : World) (hr0 : Kd.C k25 w A0 l0.length l0) (hc0 : l0.length ≤ c0) (h : impl_Node_148.f k l0 = some r),
    Calls Try.prog 148 #[.slice A0 l0.length c0, .func (.func 131) #[] #[]] w fun e w' => e = .returned (.int .i64 r) ∧ Below w.heap.size w w' := (impl_allShapes.calls_all k).2.2.2

/-! ### impl_TreeOk: function 46 -/
def impl_TreeOk.f (k : Nat) (a0_0 : Int) (a0_1 : Int) (a0_2 : ByteArray) (l0_3 : List ByteArray) (l0_4 : List (S25)) : Option (Bool) := (impl_size.f k a0_0 a0_1 a0_2 l0_3 l0_4 9).bind fun bt779 => (if bt779.1 ≤ 200 then (if bt779.2 ≤ 8 then ((impl_allShapes.f k a0_0 a0_1 a0_2 l0_3 l0_4).bind fun t781 => (some t781)) else (some false)) else (some false))
theorem impl_TreeOk.mono : ∀ a0 a1 a2 a3 a4 k, LeO (impl_TreeOk.f k a0 a1 a2 a3 a4) (impl_TreeOk.f (k + 1) a0 a1 a2 a3 a4) := by
  intro a0 a1 a2 a3 a4 k
  unfold impl_TreeOk.f
  repeat' first
      | (with_reducible exact impl_allShapes.mono _ _ _ _ _ _)
      | (with_reducible exact impl_size.mono _ _ _ _ _ _ _)
      | (with_reducible exact LeO.refl _)
      | (with_reducible exact LeO.none _)
      | (with_reducible refine LeO.ite ?_ ?_)
      | (with_reducible refine LeO.bind ?_ (fun _ => ?_))
      | exact impl_allShapes.mono _ _ _ _ _ _
      | exact impl_size.mono _ _ _ _ _ _ _
      | exact LeO.none _
      | refine LeO.ite ?_ ?_
      | refine LeO.bind ?_ (fun _ => ?_)
set_option maxHeartbeats 8000000 in
set_option maxRecDepth 100000 in
theorem impl_TreeOk.calls (k : Nat) (a0_0 : Int) (a0_1 : Int) (a0_2 : ByteArray) (A0_3 : Option Addr) (c0_3 : Nat) (l0_3 : List ByteArray) (A0_4 : Option Addr) (c0_4 : Nat) (l0_4 : List (S25)) (r : Bool) (w : World) (hr0_3 : Kd.C Kd.string w A0_3 l0_3.length l0_3) (hc0_3 : l0_3.length ≤ c0_3) (hr0_4 : Kd.C k25 w A0_4 l0_4.length l0_4) (hc0_4 : l0_4.length ≤ c0_4) (h : impl_TreeOk.f k a0_0 a0_1 a0_2 l0_3 l0_4 = some r) :
    Calls Try.prog 46 #[.agg #[.int .i64 a0_0, .int .i64 a0_1, .string a0_2, .slice A0_3 l0_3.length c0_3, .slice A0_4 l0_4.length c0_4]] w fun e w' => e = .returned (.bool r) ∧ Below w.heap.size w w' := by
  have hu25 := Try.underlying25
  have HR0_3 := Aside0.mk hr0_3
  have HC0_3 := Aside0.mk hc0_3
  clear hr0_3 hc0_3
  have HR0_4 := Aside0.mk hr0_4
  have HC0_4 := Aside0.mk hc0_4
  clear hr0_4 hc0_4
  have HB := Aside0.mk (Below.refl w.heap.size w)
  have H : ((impl_size.f k a0_0 a0_1 a0_2 l0_3 l0_4 9).bind fun bt779 => (if bt779.1 ≤ 200 then (if bt779.2 ≤ 8 then ((impl_allShapes.f k a0_0 a0_1 a0_2 l0_3 l0_4).bind fun t781 => (some t781)) else (some false)) else (some false))) = some r := h
  clear h
  replace H := Option.bind_eq_some_iff.mp H
  obtain ⟨⟨t779, t780⟩, A20, H⟩ := H
  replace H : (if t779 ≤ 200 then (if t780 ≤ 8 then ((impl_allShapes.f k a0_0 a0_1 a0_2 l0_3 l0_4).bind fun t781 => (some t781)) else (some false)) else (some false)) = some r := H
  have A2 := Aside0.mk A20
  clear A20
  by_cases c3 : t779 ≤ 200
  · rw [if_pos c3] at H
    have c3b0 : decide (t779 ≤ 200) = true := decide_eq_true c3
    clear c3
    by_cases c4 : t780 ≤ 8
    · rw [if_pos c4] at H
      have c4b0 : decide (t780 ≤ 8) = true := decide_eq_true c4
      clear c4
      replace H := Option.bind_eq_some_iff.mp H
      obtain ⟨t781, A50, H⟩ := H
      replace H : (some t781) = some r := H
      have A5 := Aside0.mk A50
      clear A50
      obtain rfl := Option.some.inj H
      go_enter Try.func46, Try.ntmps46
      go_wp2_with (first | ((with_reducible refine gate_dst (N := 1) rfl ?_); refine box_event ?hg (N := 1) ?hd (cs := #[.int .i64 a0_0, .int .i64 a0_1, .string a0_2, .slice A0_3 l0_3.length c0_3, .slice A0_4 l0_4.length c0_4]) (t := 25) ?hr ?_; (case hd => rfl); (case hg => rfl); (case hr => first | (go_simp; done) | (go_simp; rfl)); intro gb778 hg w6 hbox hb; have n0_ := Aside0.mk (below_step (by repeat (first | (with_reducible first | exact HB.out | apply below_alloc | apply pw_below_drewN | apply below_drew1) | exact HB.out)) hb); have n1_ := Aside0.mk (hbox); have n2_ := Aside0.mk ((by rw [hg]; exact (below_size (by repeat (first | (with_reducible first | exact HB.out | apply below_alloc | apply pw_below_drewN | apply below_drew1) | exact HB.out))) : w.heap.size ≤ gb778)); have n3_ := Aside0.mk ((by rw [hg]; exact (below_size (by repeat (first | (with_reducible first | exact HB.out | apply below_alloc | apply pw_below_drewN | apply below_drew1) | exact HB.out))) : w.heap.size ≤ gb778)); clear HB; have HB := n0_; have BK778 := n1_; have GW778 := n2_; have GE778 := n3_; clear n0_ n1_ n2_ n3_; clear hb hbox hg; have hcz7_0 : w6.cell? ⟨gb778, 0, none⟩ = some (.int .i64 a0_0) := (blk_cell BK778.out 0).trans rfl; have hcz7_1 : w6.cell? ⟨gb778, 1, none⟩ = some (.int .i64 a0_1) := (blk_cell BK778.out 1).trans rfl; have hcz7_2 : w6.cell? ⟨gb778, 2, none⟩ = some (.string a0_2) := (blk_cell BK778.out 2).trans rfl; have hcz7_3 : w6.cell? ⟨gb778, 3, none⟩ = some (.slice A0_3 l0_3.length c0_3) := (blk_cell BK778.out 3).trans rfl; have hcz7_4 : w6.cell? ⟨gb778, 4, none⟩ = some (.slice A0_4 l0_4.length c0_4) := (blk_cell BK778.out 4).trans rfl; have hfz7_0 := blk_frozen BK778.out 0; have hfz7_1 := blk_frozen BK778.out 1; have hfz7_2 := blk_frozen BK778.out 2; have hfz7_3 := blk_frozen BK778.out 3; have hfz7_4 := blk_frozen BK778.out 4) | ((with_reducible refine gate_callee (f := 94) rfl ?_); refine goesL_ (some 7) rfl rfl Try.func94 (by kernel_rfl) rfl #[.agg #[.int .i64 a0_0, .int .i64 a0_1, .string a0_2, .slice A0_3 l0_3.length c0_3, .slice A0_4 l0_4.length c0_4], .int .i64 9] rfl (by (try simp only [List.map_toArray, List.map_cons, List.map_nil]); first | done | rfl | (simp only [List.length_drop, List.length_take]; rfl)) ?_; (with_reducible refine (impl_size.calls k a0_0 a0_1 a0_2 _ _ l0_3 _ _ l0_4 9 t779 t780 _ ?side1 ?side2 ?side3 ?side4 A2.out).mono ?_); (case side1 => repeat (first | exact (Kd.C_below HR0_3.out HB.out) | (with_reducible refine Kd.C_alloc ?_ _) | (with_reducible refine Kd.C_drewN ?_ _) | (with_reducible refine Kd.C_drew ?_))); (case side2 => exact HC0_3.out); (case side3 => repeat (first | exact (Kd.C_below HR0_4.out HB.out) | (with_reducible refine Kd.C_alloc ?_ _) | (with_reducible refine Kd.C_drewN ?_ _) | (with_reducible refine Kd.C_drew ?_))); (case side4 => exact HC0_4.out); rintro e w8 ⟨rfl, hb⟩; refine ⟨_, rfl, ?_⟩; have n0_ := Aside0.mk (blk_below (g := gb778) (o := .cells #[.int .i64 a0_0, .int .i64 a0_1, .string a0_2, .slice A0_3 l0_3.length c0_3, .slice A0_4 l0_4.length c0_4] 25 (0, 0)) (by (with_reducible repeat (first | refine blk_drewN ?_ _ | refine blk_drew ?_ | refine blk_alloc ?_ _)); exact BK778.out) hb); have n1_ := Aside0.mk (below_step (by repeat (first | (with_reducible first | exact HB.out | apply below_alloc | apply pw_below_drewN | apply below_drew1 | refine below_set ?_ GE778.out) | exact HB.out)) hb); clear BK778; clear HB; have BK778 := n0_; have HB := n1_; clear n0_ n1_; (try clear hb); (try clear hb2); (try clear hk); (try clear hi); have hcz9_0 : w8.cell? ⟨gb778, 0, none⟩ = some (.int .i64 a0_0) := (blk_cell BK778.out 0).trans rfl; have hcz9_1 : w8.cell? ⟨gb778, 1, none⟩ = some (.int .i64 a0_1) := (blk_cell BK778.out 1).trans rfl; have hcz9_2 : w8.cell? ⟨gb778, 2, none⟩ = some (.string a0_2) := (blk_cell BK778.out 2).trans rfl; have hcz9_3 : w8.cell? ⟨gb778, 3, none⟩ = some (.slice A0_3 l0_3.length c0_3) := (blk_cell BK778.out 3).trans rfl; have hcz9_4 : w8.cell? ⟨gb778, 4, none⟩ = some (.slice A0_4 l0_4.length c0_4) := (blk_cell BK778.out 4).trans rfl; have hfz9_0 := blk_frozen BK778.out 0; have hfz9_1 := blk_frozen BK778.out 1; have hfz9_2 := blk_frozen BK778.out 2; have hfz9_3 := blk_frozen BK778.out 3; have hfz9_4 := blk_frozen BK778.out 4) | (go_at_call 95; (with_reducible refine (impl_allShapes.calls k a0_0 a0_1 a0_2 _ _ l0_3 _ _ l0_4 t781 _ ?side1 ?side2 ?side3 ?side4 A5.out).mono ?_); (case side1 => repeat (first | exact (Kd.C_below HR0_3.out HB.out) | (with_reducible refine Kd.C_alloc ?_ _) | (with_reducible refine Kd.C_drewN ?_ _) | (with_reducible refine Kd.C_drew ?_))); (case side2 => exact HC0_3.out); (case side3 => repeat (first | exact (Kd.C_below HR0_4.out HB.out) | (with_reducible refine Kd.C_alloc ?_ _) | (with_reducible refine Kd.C_drewN ?_ _) | (with_reducible refine Kd.C_drew ?_))); (case side4 => exact HC0_4.out); rintro e w10 ⟨rfl, hb⟩; have n0_ := Aside0.mk (blk_below (g := gb778) (o := .cells #[.int .i64 a0_0, .int .i64 a0_1, .string a0_2, .slice A0_3 l0_3.length c0_3, .slice A0_4 l0_4.length c0_4] 25 (0, 0)) (by (with_reducible repeat (first | refine blk_drewN ?_ _ | refine blk_drew ?_ | refine blk_alloc ?_ _)); exact BK778.out) hb); have n1_ := Aside0.mk (below_step (by repeat (first | (with_reducible first | exact HB.out | apply below_alloc | apply pw_below_drewN | apply below_drew1 | refine below_set ?_ GE778.out) | exact HB.out)) hb); clear BK778; clear HB; have BK778 := n0_; have HB := n1_; clear n0_ n1_; (try clear hb); (try clear hb2); (try clear hk); (try clear hi)))
      go_ret
      exact ⟨by first | rfl | (simp [errW_none, errW_some] <;> rfl) | (simp [*, errW_none, errW_some] <;> rfl), by repeat (first | (with_reducible first | exact HB.out | apply below_alloc | apply pw_below_drewN | apply below_drew1 | refine below_set ?_ GE778.out) | exact HB.out)⟩
    · rw [if_neg c4] at H
      have c4b0 : decide (t780 ≤ 8) = false := decide_eq_false c4
      clear c4
      obtain rfl := Option.some.inj H
      go_enter Try.func46, Try.ntmps46
      go_wp2_with (first | ((with_reducible refine gate_dst (N := 1) rfl ?_); refine box_event ?hg (N := 1) ?hd (cs := #[.int .i64 a0_0, .int .i64 a0_1, .string a0_2, .slice A0_3 l0_3.length c0_3, .slice A0_4 l0_4.length c0_4]) (t := 25) ?hr ?_; (case hd => rfl); (case hg => rfl); (case hr => first | (go_simp; done) | (go_simp; rfl)); intro gb778 hg w11 hbox hb; have n0_ := Aside0.mk (below_step (by repeat (first | (with_reducible first | exact HB.out | apply below_alloc | apply pw_below_drewN | apply below_drew1) | exact HB.out)) hb); have n1_ := Aside0.mk (hbox); have n2_ := Aside0.mk ((by rw [hg]; exact (below_size (by repeat (first | (with_reducible first | exact HB.out | apply below_alloc | apply pw_below_drewN | apply below_drew1) | exact HB.out))) : w.heap.size ≤ gb778)); have n3_ := Aside0.mk ((by rw [hg]; exact (below_size (by repeat (first | (with_reducible first | exact HB.out | apply below_alloc | apply pw_below_drewN | apply below_drew1) | exact HB.out))) : w.heap.size ≤ gb778)); clear HB; have HB := n0_; have BK778 := n1_; have GW778 := n2_; have GE778 := n3_; clear n0_ n1_ n2_ n3_; clear hb hbox hg; have hcz12_0 : w11.cell? ⟨gb778, 0, none⟩ = some (.int .i64 a0_0) := (blk_cell BK778.out 0).trans rfl; have hcz12_1 : w11.cell? ⟨gb778, 1, none⟩ = some (.int .i64 a0_1) := (blk_cell BK778.out 1).trans rfl; have hcz12_2 : w11.cell? ⟨gb778, 2, none⟩ = some (.string a0_2) := (blk_cell BK778.out 2).trans rfl; have hcz12_3 : w11.cell? ⟨gb778, 3, none⟩ = some (.slice A0_3 l0_3.length c0_3) := (blk_cell BK778.out 3).trans rfl; have hcz12_4 : w11.cell? ⟨gb778, 4, none⟩ = some (.slice A0_4 l0_4.length c0_4) := (blk_cell BK778.out 4).trans rfl; have hfz12_0 := blk_frozen BK778.out 0; have hfz12_1 := blk_frozen BK778.out 1; have hfz12_2 := blk_frozen BK778.out 2; have hfz12_3 := blk_frozen BK778.out 3; have hfz12_4 := blk_frozen BK778.out 4) | ((with_reducible refine gate_callee (f := 94) rfl ?_); refine goesL_ (some 7) rfl rfl Try.func94 (by kernel_rfl) rfl #[.agg #[.int .i64 a0_0, .int .i64 a0_1, .string a0_2, .slice A0_3 l0_3.length c0_3, .slice A0_4 l0_4.length c0_4], .int .i64 9] rfl (by (try simp only [List.map_toArray, List.map_cons, List.map_nil]); first | done | rfl | (simp only [List.length_drop, List.length_take]; rfl)) ?_; (with_reducible refine (impl_size.calls k a0_0 a0_1 a0_2 _ _ l0_3 _ _ l0_4 9 t779 t780 _ ?side1 ?side2 ?side3 ?side4 A2.out).mono ?_); (case side1 => repeat (first | exact (Kd.C_below HR0_3.out HB.out) | (with_reducible refine Kd.C_alloc ?_ _) | (with_reducible refine Kd.C_drewN ?_ _) | (with_reducible refine Kd.C_drew ?_))); (case side2 => exact HC0_3.out); (case side3 => repeat (first | exact (Kd.C_below HR0_4.out HB.out) | (with_reducible refine Kd.C_alloc ?_ _) | (with_reducible refine Kd.C_drewN ?_ _) | (with_reducible refine Kd.C_drew ?_))); (case side4 => exact HC0_4.out); rintro e w13 ⟨rfl, hb⟩; refine ⟨_, rfl, ?_⟩; have n0_ := Aside0.mk (blk_below (g := gb778) (o := .cells #[.int .i64 a0_0, .int .i64 a0_1, .string a0_2, .slice A0_3 l0_3.length c0_3, .slice A0_4 l0_4.length c0_4] 25 (0, 0)) (by (with_reducible repeat (first | refine blk_drewN ?_ _ | refine blk_drew ?_ | refine blk_alloc ?_ _)); exact BK778.out) hb); have n1_ := Aside0.mk (below_step (by repeat (first | (with_reducible first | exact HB.out | apply below_alloc | apply pw_below_drewN | apply below_drew1 | refine below_set ?_ GE778.out) | exact HB.out)) hb); clear BK778; clear HB; have BK778 := n0_; have HB := n1_; clear n0_ n1_; (try clear hb); (try clear hb2); (try clear hk); (try clear hi)))
      go_ret
      exact ⟨by first | rfl | (simp [errW_none, errW_some] <;> rfl) | (simp [*, errW_none, errW_some] <;> rfl), by repeat (first | (with_reducible first | exact HB.out | apply below_alloc | apply pw_below_drewN | apply below_drew1 | refine below_set ?_ GE778.out) | exact HB.out)⟩
  · rw [if_neg c3] at H
    have c3b0 : decide (t779 ≤ 200) = false := decide_eq_false c3
    clear c3
    obtain rfl := Option.some.inj H
    go_enter Try.func46, Try.ntmps46
    go_wp2_with (first | ((with_reducible refine gate_dst (N := 1) rfl ?_); refine box_event ?hg (N := 1) ?hd (cs := #[.int .i64 a0_0, .int .i64 a0_1, .string a0_2, .slice A0_3 l0_3.length c0_3, .slice A0_4 l0_4.length c0_4]) (t := 25) ?hr ?_; (case hd => rfl); (case hg => rfl); (case hr => first | (go_simp; done) | (go_simp; rfl)); intro gb778 hg w14 hbox hb; have n0_ := Aside0.mk (below_step (by repeat (first | (with_reducible first | exact HB.out | apply below_alloc | apply pw_below_drewN | apply below_drew1) | exact HB.out)) hb); have n1_ := Aside0.mk (hbox); have n2_ := Aside0.mk ((by rw [hg]; exact (below_size (by repeat (first | (with_reducible first | exact HB.out | apply below_alloc | apply pw_below_drewN | apply below_drew1) | exact HB.out))) : w.heap.size ≤ gb778)); have n3_ := Aside0.mk ((by rw [hg]; exact (below_size (by repeat (first | (with_reducible first | exact HB.out | apply below_alloc | apply pw_below_drewN | apply below_drew1) | exact HB.out))) : w.heap.size ≤ gb778)); clear HB; have HB := n0_; have BK778 := n1_; have GW778 := n2_; have GE778 := n3_; clear n0_ n1_ n2_ n3_; clear hb hbox hg; have hcz15_0 : w14.cell? ⟨gb778, 0, none⟩ = some (.int .i64 a0_0) := (blk_cell BK778.out 0).trans rfl; have hcz15_1 : w14.cell? ⟨gb778, 1, none⟩ = some (.int .i64 a0_1) := (blk_cell BK778.out 1).trans rfl; have hcz15_2 : w14.cell? ⟨gb778, 2, none⟩ = some (.string a0_2) := (blk_cell BK778.out 2).trans rfl; have hcz15_3 : w14.cell? ⟨gb778, 3, none⟩ = some (.slice A0_3 l0_3.length c0_3) := (blk_cell BK778.out 3).trans rfl; have hcz15_4 : w14.cell? ⟨gb778, 4, none⟩ = some (.slice A0_4 l0_4.length c0_4) := (blk_cell BK778.out 4).trans rfl; have hfz15_0 := blk_frozen BK778.out 0; have hfz15_1 := blk_frozen BK778.out 1; have hfz15_2 := blk_frozen BK778.out 2; have hfz15_3 := blk_frozen BK778.out 3; have hfz15_4 := blk_frozen BK778.out 4) | ((with_reducible refine gate_callee (f := 94) rfl ?_); refine goesL_ (some 7) rfl rfl Try.func94 (by kernel_rfl) rfl #[.agg #[.int .i64 a0_0, .int .i64 a0_1, .string a0_2, .slice A0_3 l0_3.length c0_3, .slice A0_4 l0_4.length c0_4], .int .i64 9] rfl (by (try simp only [List.map_toArray, List.map_cons, List.map_nil]); first | done | rfl | (simp only [List.length_drop, List.length_take]; rfl)) ?_; (with_reducible refine (impl_size.calls k a0_0 a0_1 a0_2 _ _ l0_3 _ _ l0_4 9 t779 t780 _ ?side1 ?side2 ?side3 ?side4 A2.out).mono ?_); (case side1 => repeat (first | exact (Kd.C_below HR0_3.out HB.out) | (with_reducible refine Kd.C_alloc ?_ _) | (with_reducible refine Kd.C_drewN ?_ _) | (with_reducible refine Kd.C_drew ?_))); (case side2 => exact HC0_3.out); (case side3 => repeat (first | exact (Kd.C_below HR0_4.out HB.out) | (with_reducible refine Kd.C_alloc ?_ _) | (with_reducible refine Kd.C_drewN ?_ _) | (with_reducible refine Kd.C_drew ?_))); (case side4 => exact HC0_4.out); rintro e w16 ⟨rfl, hb⟩; refine ⟨_, rfl, ?_⟩; have n0_ := Aside0.mk (blk_below (g := gb778) (o := .cells #[.int .i64 a0_0, .int .i64 a0_1, .string a0_2, .slice A0_3 l0_3.length c0_3, .slice A0_4 l0_4.length c0_4] 25 (0, 0)) (by (with_reducible repeat (first | refine blk_drewN ?_ _ | refine blk_drew ?_ | refine blk_alloc ?_ _)); exact BK778.out) hb); have n1_ := Aside0.mk (below_step (by repeat (first | (with_reducible first | exact HB.out | apply below_alloc | apply pw_below_drewN | apply below_drew1 | refine below_set ?_ GE778.out) | exact HB.out)) hb); clear BK778; clear HB; have BK778 := n0_; have HB := n1_; clear n0_ n1_; (try clear hb); (try clear hb2); (try clear hk); (try clear hi)))
    go_ret
    exact ⟨by first | rfl | (simp [errW_none, errW_some] <;> rfl) | (simp [*, errW_none, errW_some] <;> rfl), by repeat (first | (with_reducible first | exact HB.out | apply below_alloc | apply pw_below_drewN | apply below_drew1 | refine below_set ?_ GE778.out) | exact HB.out)⟩

end Go.Proofs.Ytnbnpgjgibcmpaa.P
