-- Made by drive.py (a program of this session) over the kit's print; not written line by line by a hand.
import Derived.Test.YtjkanclhlnojhaaP0
import Derived.Test.YtjkanclhlnojhaaP_laws_big
import Derived.Test.YtjkanclhlnojhaaP_spec_Digits
import Derived.Test.YtjkanclhlnojhaaP_spec_DrawDigits
import Derived.Test.YtjkanclhlnojhaaP_spec_Number
namespace Go.Proofs.Ytjkanclhlnojhaa.P
open Go.RowKit Go.Proofs.YtjkanclhlnojhaaW.PrintWords Go.Proofs.YtjkanclhlnojhaaW.PrintLast Go.Proofs.YtjkanclhlnojhaaW.PrintMore
attribute [local go_sem] max2_int min2_int max_two min_two max_three min_three max_four min_four   -- for this text's walks alone
set_option linter.unusedVariables false
set_option linter.unusedSimpArgs false

/-! ### laws_FnNumbers: function 15 -/
mutual
def laws_FnNumbers.j0 : Nat → Int → Int → Int → Int → Int → Int → Bool → Option (Bool)
  | 0, _, _, _, _, _, _, _ => none
  | k + 1, x9, x10, x11, x13, x14, x15, x88 => if x88 = true then (some false) else (if x13 ≤ x14 then (if x15 < x13 then (laws_FnNumbers.j1 k x9 x10 x11 true) else (laws_FnNumbers.j1 k x9 x10 x11 (decide (x15 > x14)))) else (laws_FnNumbers.j1 k x9 x10 x11 false))
def laws_FnNumbers.j1 : Nat → Int → Int → Int → Bool → Option (Bool)
  | 0, _, _, _, _ => none
  | k + 1, x9, x10, x11, x101 => if x101 = true then (some false) else (if x9 < 0 then (some (x11 == 0)) else (if x9 > 1000000000000 then (some (x11 == 0)) else (if x10 < 1 then (some (x11 == 0)) else (if x10 > 1000000000000 then (some (x11 == 0)) else (if x10 = 0 then (none) else (if x11 ≥ (wrap64 (Int.tdiv x9 x10)) then (if x11 ≤ (wrap64 ((wrap64 (Int.tdiv x9 x10)) + 1)) then (some (((wrap64 (x11 - (wrap64 (Int.tdiv x9 x10)))) == 0) == ((Int.tmod x9 x10) == 0))) else (some false)) else (some false)))))))
end
def laws_FnNumbers.f (k : Nat) (l0 : List Int) : Option (Bool) := (laws_big.f l0).bind fun t422 => (if t422 = true then (some true) else ((spec_DrawDigits.f k l0).bind fun t423 => ((spec_DrawNumber.f k l0).bind fun t424 => ((impl_Number.f k t424).bind fun bt425 => ((spec_Number.f k t424).bind fun bt427 => ((spec_DrawCeilDiv.f k l0).bind fun bt429 => ((impl_CeilDiv.f bt429.1 bt429.2).bind fun t431 => ((spec_DrawClamp.f k l0).bind fun bt432 => ((impl_Clamp.f bt432.1 bt432.2.1 bt432.2.2).bind fun t435 => ((impl_Digits.f k t423).bind fun t436 => ((spec_Digits.f k t423).bind fun t437 => (if t436.toList = t437.toList then (if bt425.1 = bt427.1 then (if (bt425.2 != bt427.2) = true then (laws_FnNumbers.j0 k bt429.1 bt429.2 t431 bt432.2.1 bt432.2.2 t435 true) else ((spec_CeilDiv.f bt429.1 bt429.2).bind fun t438 => (if t431 = t438 then ((spec_Clamp.f bt432.1 bt432.2.1 bt432.2.2).bind fun t439 => (if t435 = t439 then (if bt425.2 = true then ((impl_Digits.f k bt425.1).bind fun t440 => (laws_FnNumbers.j0 k bt429.1 bt429.2 t431 bt432.2.1 bt432.2.2 t435 (t440.toList != t424.toList))) else (laws_FnNumbers.j0 k bt429.1 bt429.2 t431 bt432.2.1 bt432.2.2 t435 false)) else (laws_FnNumbers.j0 k bt429.1 bt429.2 t431 bt432.2.1 bt432.2.2 t435 true))) else (laws_FnNumbers.j0 k bt429.1 bt429.2 t431 bt432.2.1 bt432.2.2 t435 true)))) else (laws_FnNumbers.j0 k bt429.1 bt429.2 t431 bt432.2.1 bt432.2.2 t435 true)) else (laws_FnNumbers.j0 k bt429.1 bt429.2 t431 bt432.2.1 bt432.2.2 t435 true)))))))))))))
theorem laws_FnNumbers.mono_l : ∀ k, (∀ y0 y1 y2 y3 y4 y5 y6, LeO (laws_FnNumbers.j0 k y0 y1 y2 y3 y4 y5 y6) (laws_FnNumbers.j0 (k + 1) y0 y1 y2 y3 y4 y5 y6)) ∧ (∀ y0 y1 y2 y3, LeO (laws_FnNumbers.j1 k y0 y1 y2 y3) (laws_FnNumbers.j1 (k + 1) y0 y1 y2 y3))
  | 0 => ⟨fun _ _ _ _ _ _ _ r h => by simp [laws_FnNumbers.j0] at h, fun _ _ _ _ r h => by simp [laws_FnNumbers.j1] at h⟩
  | k + 1 => by
    obtain ⟨ih0, ih1⟩ := laws_FnNumbers.mono_l k
    refine ⟨?_, ?_⟩
    · intro y0 y1 y2 y3 y4 y5 y6
      unfold laws_FnNumbers.j0
      repeat' first
      | (with_reducible exact ih0 _ _ _ _ _ _ _)
      | (with_reducible exact ih1 _ _ _ _)
      | (with_reducible exact impl_Digits.mono _ _)
      | (with_reducible exact impl_Number.mono _ _)
      | (with_reducible exact spec_Digits.mono _ _)
      | (with_reducible exact spec_DrawCeilDiv.mono _ _)
      | (with_reducible exact spec_DrawClamp.mono _ _)
      | (with_reducible exact spec_DrawDigits.mono _ _)
      | (with_reducible exact spec_DrawNumber.mono _ _)
      | (with_reducible exact spec_Number.mono _ _)
      | (with_reducible exact LeO.refl _)
      | (with_reducible exact LeO.none _)
      | (with_reducible refine LeO.ite ?_ ?_)
      | (with_reducible refine LeO.bind ?_ (fun _ => ?_))
      | exact ih0 _ _ _ _ _ _ _
      | exact ih1 _ _ _ _
      | exact impl_Digits.mono _ _
      | exact impl_Number.mono _ _
      | exact spec_Digits.mono _ _
      | exact spec_DrawCeilDiv.mono _ _
      | exact spec_DrawClamp.mono _ _
      | exact spec_DrawDigits.mono _ _
      | exact spec_DrawNumber.mono _ _
      | exact spec_Number.mono _ _
      | exact LeO.none _
      | refine LeO.ite ?_ ?_
      | refine LeO.bind ?_ (fun _ => ?_)
    · intro y0 y1 y2 y3
      unfold laws_FnNumbers.j1
      repeat' first
      | (with_reducible exact ih0 _ _ _ _ _ _ _)
      | (with_reducible exact ih1 _ _ _ _)
      | (with_reducible exact impl_Digits.mono _ _)
      | (with_reducible exact impl_Number.mono _ _)
      | (with_reducible exact spec_Digits.mono _ _)
      | (with_reducible exact spec_DrawCeilDiv.mono _ _)
      | (with_reducible exact spec_DrawClamp.mono _ _)
      | (with_reducible exact spec_DrawDigits.mono _ _)
      | (with_reducible exact spec_DrawNumber.mono _ _)
      | (with_reducible exact spec_Number.mono _ _)
      | (with_reducible exact LeO.refl _)
      | (with_reducible exact LeO.none _)
      | (with_reducible refine LeO.ite ?_ ?_)
      | (with_reducible refine LeO.bind ?_ (fun _ => ?_))
      | exact ih0 _ _ _ _ _ _ _
      | exact ih1 _ _ _ _
      | exact impl_Digits.mono _ _
      | exact impl_Number.mono _ _
      | exact spec_Digits.mono _ _
      | exact spec_DrawCeilDiv.mono _ _
      | exact spec_DrawClamp.mono _ _
      | exact spec_DrawDigits.mono _ _
      | exact spec_DrawNumber.mono _ _
      | exact spec_Number.mono _ _
      | exact LeO.none _
      | refine LeO.ite ?_ ?_
      | refine LeO.bind ?_ (fun _ => ?_)
theorem laws_FnNumbers.mono : ∀ a0 k, LeO (laws_FnNumbers.f k a0) (laws_FnNumbers.f (k + 1) a0) := by
  intro a0 k
  obtain ⟨ih0, ih1⟩ := laws_FnNumbers.mono_l k
  unfold laws_FnNumbers.f
  repeat' first
      | (with_reducible exact ih0 _ _ _ _ _ _ _)
      | (with_reducible exact ih1 _ _ _ _)
      | (with_reducible exact impl_Digits.mono _ _)
      | (with_reducible exact impl_Number.mono _ _)
      | (with_reducible exact spec_Digits.mono _ _)
      | (with_reducible exact spec_DrawCeilDiv.mono _ _)
      | (with_reducible exact spec_DrawClamp.mono _ _)
      | (with_reducible exact spec_DrawDigits.mono _ _)
      | (with_reducible exact spec_DrawNumber.mono _ _)
      | (with_reducible exact spec_Number.mono _ _)
      | (with_reducible exact LeO.refl _)
      | (with_reducible exact LeO.none _)
      | (with_reducible refine LeO.ite ?_ ?_)
      | (with_reducible refine LeO.bind ?_ (fun _ => ?_))
      | exact ih0 _ _ _ _ _ _ _
      | exact ih1 _ _ _ _
      | exact impl_Digits.mono _ _
      | exact impl_Number.mono _ _
      | exact spec_Digits.mono _ _
      | exact spec_DrawCeilDiv.mono _ _
      | exact spec_DrawClamp.mono _ _
      | exact spec_DrawDigits.mono _ _
      | exact spec_DrawNumber.mono _ _
      | exact spec_Number.mono _ _
      | exact LeO.none _
      | refine LeO.ite ?_ ?_
      | refine LeO.bind ?_ (fun _ => ?_)
set_option maxHeartbeats 8000000 in
set_option maxRecDepth 100000 in
theorem laws_FnNumbers.calls (k : Nat) (A0 : Option Addr) (c0 : Nat) (l0 : List Int) (r : Bool) (w : World) (hr0 : Kd.C (Kd.int .u8) w A0 l0.length l0) (hc0 : l0.length ≤ c0) (h : laws_FnNumbers.f k l0 = some r) :
    Calls Try.prog 15 #[.slice A0 l0.length c0] w fun e w' => e = .returned (.bool r) ∧ Below w.heap.size w w' := by
  have HR0 := Aside0.mk hr0
  have HC0 := Aside0.mk hc0
  clear hr0 hc0
  have HB := Aside0.mk (Below.refl w.heap.size w)
  have H : ((laws_big.f l0).bind fun t422 => (if t422 = true then (some true) else ((spec_DrawDigits.f k l0).bind fun t423 => ((spec_DrawNumber.f k l0).bind fun t424 => ((impl_Number.f k t424).bind fun bt425 => ((spec_Number.f k t424).bind fun bt427 => ((spec_DrawCeilDiv.f k l0).bind fun bt429 => ((impl_CeilDiv.f bt429.1 bt429.2).bind fun t431 => ((spec_DrawClamp.f k l0).bind fun bt432 => ((impl_Clamp.f bt432.1 bt432.2.1 bt432.2.2).bind fun t435 => ((impl_Digits.f k t423).bind fun t436 => ((spec_Digits.f k t423).bind fun t437 => (if t436.toList = t437.toList then (if bt425.1 = bt427.1 then (if (bt425.2 != bt427.2) = true then (laws_FnNumbers.j0 k bt429.1 bt429.2 t431 bt432.2.1 bt432.2.2 t435 true) else ((spec_CeilDiv.f bt429.1 bt429.2).bind fun t438 => (if t431 = t438 then ((spec_Clamp.f bt432.1 bt432.2.1 bt432.2.2).bind fun t439 => (if t435 = t439 then (if bt425.2 = true then ((impl_Digits.f k bt425.1).bind fun t440 => (laws_FnNumbers.j0 k bt429.1 bt429.2 t431 bt432.2.1 bt432.2.2 t435 (t440.toList != t424.toList))) else (laws_FnNumbers.j0 k bt429.1 bt429.2 t431 bt432.2.1 bt432.2.2 t435 false)) else (laws_FnNumbers.j0 k bt429.1 bt429.2 t431 bt432.2.1 bt432.2.2 t435 true))) else (laws_FnNumbers.j0 k bt429.1 bt429.2 t431 bt432.2.1 bt432.2.2 t435 true)))) else (laws_FnNumbers.j0 k bt429.1 bt429.2 t431 bt432.2.1 bt432.2.2 t435 true)) else (laws_FnNumbers.j0 k bt429.1 bt429.2 t431 bt432.2.1 bt432.2.2 t435 true)))))))))))))) = some r := h
  clear h
  replace H := Option.bind_eq_some_iff.mp H
  obtain ⟨t422, A20, H⟩ := H
  replace H : (if t422 = true then (some true) else ((spec_DrawDigits.f k l0).bind fun t423 => ((spec_DrawNumber.f k l0).bind fun t424 => ((impl_Number.f k t424).bind fun bt425 => ((spec_Number.f k t424).bind fun bt427 => ((spec_DrawCeilDiv.f k l0).bind fun bt429 => ((impl_CeilDiv.f bt429.1 bt429.2).bind fun t431 => ((spec_DrawClamp.f k l0).bind fun bt432 => ((impl_Clamp.f bt432.1 bt432.2.1 bt432.2.2).bind fun t435 => ((impl_Digits.f k t423).bind fun t436 => ((spec_Digits.f k t423).bind fun t437 => (if t436.toList = t437.toList then (if bt425.1 = bt427.1 then (if (bt425.2 != bt427.2) = true then (laws_FnNumbers.j0 k bt429.1 bt429.2 t431 bt432.2.1 bt432.2.2 t435 true) else ((spec_CeilDiv.f bt429.1 bt429.2).bind fun t438 => (if t431 = t438 then ((spec_Clamp.f bt432.1 bt432.2.1 bt432.2.2).bind fun t439 => (if t435 = t439 then (if bt425.2 = true then ((impl_Digits.f k bt425.1).bind fun t440 => (laws_FnNumbers.j0 k bt429.1 bt429.2 t431 bt432.2.1 bt432.2.2 t435 (t440.toList != t424.toList))) else (laws_FnNumbers.j0 k bt429.1 bt429.2 t431 bt432.2.1 bt432.2.2 t435 false)) else (laws_FnNumbers.j0 k bt429.1 bt429.2 t431 bt432.2.1 bt432.2.2 t435 true))) else (laws_FnNumbers.j0 k bt429.1 bt429.2 t431 bt432.2.1 bt432.2.2 t435 true)))) else (laws_FnNumbers.j0 k bt429.1 bt429.2 t431 bt432.2.1 bt432.2.2 t435 true)) else (laws_FnNumbers.j0 k bt429.1 bt429.2 t431 bt432.2.1 bt432.2.2 t435 true))))))))))))) = some r := H
  have A2 := Aside0.mk A20
  clear A20
  have HC3 := Aside0.mk H
  clear H
  go_enter Try.func15, Try.ntmps15
  go_upto_if 17 with (first | (go_at_call 50; (with_reducible refine (laws_big.calls _ _ l0 t422 _ ?side1 ?side2 A2.out).mono ?_); (case side1 => repeat (first | exact HR0.out | (with_reducible refine Kd.C_alloc ?_ _) | (with_reducible refine Kd.C_drewN ?_ _) | (with_reducible refine Kd.C_drew ?_))); (case side2 => exact HC0.out); rintro e w' ⟨rfl, ⟨nd, rfl⟩⟩; (try first | exact ⟨rfl, _, World.drewN_drewN _ _ _⟩ | exact ⟨rfl, _, Eq.trans (World.drewN_drewN _ _ _) (congrArg (World.drewN _) (Nat.add_assoc _ _ _))⟩)))
  repeat (go_quiet (first | (go_at_call 50; (with_reducible refine (laws_big.calls _ _ l0 t422 _ ?side1 ?side2 A2.out).mono ?_); (case side1 => repeat (first | exact HR0.out | (with_reducible refine Kd.C_alloc ?_ _) | (with_reducible refine Kd.C_drewN ?_ _) | (with_reducible refine Kd.C_drew ?_))); (case side2 => exact HC0.out); rintro e w' ⟨rfl, ⟨nd, rfl⟩⟩; (try first | exact ⟨rfl, _, World.drewN_drewN _ _ _⟩ | exact ⟨rfl, _, Eq.trans (World.drewN_drewN _ _ _) (congrArg (World.drewN _) (Nat.add_assoc _ _ _))⟩))); go_upto_if 17 with (first | (go_at_call 50; (with_reducible refine (laws_big.calls _ _ l0 t422 _ ?side1 ?side2 A2.out).mono ?_); (case side1 => repeat (first | exact HR0.out | (with_reducible refine Kd.C_alloc ?_ _) | (with_reducible refine Kd.C_drewN ?_ _) | (with_reducible refine Kd.C_drew ?_))); (case side2 => exact HC0.out); rintro e w' ⟨rfl, ⟨nd, rfl⟩⟩; (try first | exact ⟨rfl, _, World.drewN_drewN _ _ _⟩ | exact ⟨rfl, _, Eq.trans (World.drewN_drewN _ _ _) (congrArg (World.drewN _) (Nat.add_assoc _ _ _))⟩))))
  (try simp only [Act.put, List.setIfInBounds_toArray, List.set_cons_zero, List.set_cons_succ])
  have H := HC3.out
  clear HC3
  by_cases c4 : t422 = true
  · subst c4
    have H1 : (some true) = some r := by rw [if_pos rfl] at H; exact H
    clear H
    have H := H1
    clear H1
    obtain rfl := Option.some.inj H
    go_wp2
    repeat (go_quiet (fail); try go_wp2)
    go_ret
    exact ⟨by first | rfl | (simp [errW_none, errW_some] <;> rfl) | (simp [*, errW_none, errW_some] <;> rfl), by repeat (first | (with_reducible first | exact HB.out | apply below_alloc | apply pw_below_drewN | apply below_drew1) | exact HB.out)⟩
  · replace c4 := Bool.eq_false_iff.mpr c4
    subst c4
    have H1 : ((spec_DrawDigits.f k l0).bind fun t423 => ((spec_DrawNumber.f k l0).bind fun t424 => ((impl_Number.f k t424).bind fun bt425 => ((spec_Number.f k t424).bind fun bt427 => ((spec_DrawCeilDiv.f k l0).bind fun bt429 => ((impl_CeilDiv.f bt429.1 bt429.2).bind fun t431 => ((spec_DrawClamp.f k l0).bind fun bt432 => ((impl_Clamp.f bt432.1 bt432.2.1 bt432.2.2).bind fun t435 => ((impl_Digits.f k t423).bind fun t436 => ((spec_Digits.f k t423).bind fun t437 => (if t436.toList = t437.toList then (if bt425.1 = bt427.1 then (if (bt425.2 != bt427.2) = true then (laws_FnNumbers.j0 k bt429.1 bt429.2 t431 bt432.2.1 bt432.2.2 t435 true) else ((spec_CeilDiv.f bt429.1 bt429.2).bind fun t438 => (if t431 = t438 then ((spec_Clamp.f bt432.1 bt432.2.1 bt432.2.2).bind fun t439 => (if t435 = t439 then (if bt425.2 = true then ((impl_Digits.f k bt425.1).bind fun t440 => (laws_FnNumbers.j0 k bt429.1 bt429.2 t431 bt432.2.1 bt432.2.2 t435 (t440.toList != t424.toList))) else (laws_FnNumbers.j0 k bt429.1 bt429.2 t431 bt432.2.1 bt432.2.2 t435 false)) else (laws_FnNumbers.j0 k bt429.1 bt429.2 t431 bt432.2.1 bt432.2.2 t435 true))) else (laws_FnNumbers.j0 k bt429.1 bt429.2 t431 bt432.2.1 bt432.2.2 t435 true)))) else (laws_FnNumbers.j0 k bt429.1 bt429.2 t431 bt432.2.1 bt432.2.2 t435 true)) else (laws_FnNumbers.j0 k bt429.1 bt429.2 t431 bt432.2.1 bt432.2.2 t435 true)))))))))))) = some r := by rw [if_neg (show ¬ (false = true) by decide)] at H; exact H
    clear H
    have H := H1
    clear H1
    replace H := Option.bind_eq_some_iff.mp H
    obtain ⟨t423, A50, H⟩ := H
    replace H : ((spec_DrawNumber.f k l0).bind fun t424 => ((impl_Number.f k t424).bind fun bt425 => ((spec_Number.f k t424).bind fun bt427 => ((spec_DrawCeilDiv.f k l0).bind fun bt429 => ((impl_CeilDiv.f bt429.1 bt429.2).bind fun t431 => ((spec_DrawClamp.f k l0).bind fun bt432 => ((impl_Clamp.f bt432.1 bt432.2.1 bt432.2.2).bind fun t435 => ((impl_Digits.f k t423).bind fun t436 => ((spec_Digits.f k t423).bind fun t437 => (if t436.toList = t437.toList then (if bt425.1 = bt427.1 then (if (bt425.2 != bt427.2) = true then (laws_FnNumbers.j0 k bt429.1 bt429.2 t431 bt432.2.1 bt432.2.2 t435 true) else ((spec_CeilDiv.f bt429.1 bt429.2).bind fun t438 => (if t431 = t438 then ((spec_Clamp.f bt432.1 bt432.2.1 bt432.2.2).bind fun t439 => (if t435 = t439 then (if bt425.2 = true then ((impl_Digits.f k bt425.1).bind fun t440 => (laws_FnNumbers.j0 k bt429.1 bt429.2 t431 bt432.2.1 bt432.2.2 t435 (t440.toList != t424.toList))) else (laws_FnNumbers.j0 k bt429.1 bt429.2 t431 bt432.2.1 bt432.2.2 t435 false)) else (laws_FnNumbers.j0 k bt429.1 bt429.2 t431 bt432.2.1 bt432.2.2 t435 true))) else (laws_FnNumbers.j0 k bt429.1 bt429.2 t431 bt432.2.1 bt432.2.2 t435 true)))) else (laws_FnNumbers.j0 k bt429.1 bt429.2 t431 bt432.2.1 bt432.2.2 t435 true)) else (laws_FnNumbers.j0 k bt429.1 bt429.2 t431 bt432.2.1 bt432.2.2 t435 true))))))))))) = some r := H
    have A5 := Aside0.mk A50
    clear A50
    replace H := Option.bind_eq_some_iff.mp H
    obtain ⟨t424, A60, H⟩ := H
    replace H : ((impl_Number.f k t424).bind fun bt425 => ((spec_Number.f k t424).bind fun bt427 => ((spec_DrawCeilDiv.f k l0).bind fun bt429 => ((impl_CeilDiv.f bt429.1 bt429.2).bind fun t431 => ((spec_DrawClamp.f k l0).bind fun bt432 => ((impl_Clamp.f bt432.1 bt432.2.1 bt432.2.2).bind fun t435 => ((impl_Digits.f k t423).bind fun t436 => ((spec_Digits.f k t423).bind fun t437 => (if t436.toList = t437.toList then (if bt425.1 = bt427.1 then (if (bt425.2 != bt427.2) = true then (laws_FnNumbers.j0 k bt429.1 bt429.2 t431 bt432.2.1 bt432.2.2 t435 true) else ((spec_CeilDiv.f bt429.1 bt429.2).bind fun t438 => (if t431 = t438 then ((spec_Clamp.f bt432.1 bt432.2.1 bt432.2.2).bind fun t439 => (if t435 = t439 then (if bt425.2 = true then ((impl_Digits.f k bt425.1).bind fun t440 => (laws_FnNumbers.j0 k bt429.1 bt429.2 t431 bt432.2.1 bt432.2.2 t435 (t440.toList != t424.toList))) else (laws_FnNumbers.j0 k bt429.1 bt429.2 t431 bt432.2.1 bt432.2.2 t435 false)) else (laws_FnNumbers.j0 k bt429.1 bt429.2 t431 bt432.2.1 bt432.2.2 t435 true))) else (laws_FnNumbers.j0 k bt429.1 bt429.2 t431 bt432.2.1 bt432.2.2 t435 true)))) else (laws_FnNumbers.j0 k bt429.1 bt429.2 t431 bt432.2.1 bt432.2.2 t435 true)) else (laws_FnNumbers.j0 k bt429.1 bt429.2 t431 bt432.2.1 bt432.2.2 t435 true)))))))))) = some r := H
    have A6 := Aside0.mk A60
    clear A60
    replace H := Option.bind_eq_some_iff.mp H
    obtain ⟨⟨t425, t426⟩, A70, H⟩ := H
    replace H : ((spec_Number.f k t424).bind fun bt427 => ((spec_DrawCeilDiv.f k l0).bind fun bt429 => ((impl_CeilDiv.f bt429.1 bt429.2).bind fun t431 => ((spec_DrawClamp.f k l0).bind fun bt432 => ((impl_Clamp.f bt432.1 bt432.2.1 bt432.2.2).bind fun t435 => ((impl_Digits.f k t423).bind fun t436 => ((spec_Digits.f k t423).bind fun t437 => (if t436.toList = t437.toList then (if t425 = bt427.1 then (if (t426 != bt427.2) = true then (laws_FnNumbers.j0 k bt429.1 bt429.2 t431 bt432.2.1 bt432.2.2 t435 true) else ((spec_CeilDiv.f bt429.1 bt429.2).bind fun t438 => (if t431 = t438 then ((spec_Clamp.f bt432.1 bt432.2.1 bt432.2.2).bind fun t439 => (if t435 = t439 then (if t426 = true then ((impl_Digits.f k t425).bind fun t440 => (laws_FnNumbers.j0 k bt429.1 bt429.2 t431 bt432.2.1 bt432.2.2 t435 (t440.toList != t424.toList))) else (laws_FnNumbers.j0 k bt429.1 bt429.2 t431 bt432.2.1 bt432.2.2 t435 false)) else (laws_FnNumbers.j0 k bt429.1 bt429.2 t431 bt432.2.1 bt432.2.2 t435 true))) else (laws_FnNumbers.j0 k bt429.1 bt429.2 t431 bt432.2.1 bt432.2.2 t435 true)))) else (laws_FnNumbers.j0 k bt429.1 bt429.2 t431 bt432.2.1 bt432.2.2 t435 true)) else (laws_FnNumbers.j0 k bt429.1 bt429.2 t431 bt432.2.1 bt432.2.2 t435 true))))))))) = some r := H
    have A7 := Aside0.mk A70
    clear A70
    replace H := Option.bind_eq_some_iff.mp H
    obtain ⟨⟨t427, t428⟩, A80, H⟩ := H
    replace H : ((spec_DrawCeilDiv.f k l0).bind fun bt429 => ((impl_CeilDiv.f bt429.1 bt429.2).bind fun t431 => ((spec_DrawClamp.f k l0).bind fun bt432 => ((impl_Clamp.f bt432.1 bt432.2.1 bt432.2.2).bind fun t435 => ((impl_Digits.f k t423).bind fun t436 => ((spec_Digits.f k t423).bind fun t437 => (if t436.toList = t437.toList then (if t425 = t427 then (if (t426 != t428) = true then (laws_FnNumbers.j0 k bt429.1 bt429.2 t431 bt432.2.1 bt432.2.2 t435 true) else ((spec_CeilDiv.f bt429.1 bt429.2).bind fun t438 => (if t431 = t438 then ((spec_Clamp.f bt432.1 bt432.2.1 bt432.2.2).bind fun t439 => (if t435 = t439 then (if t426 = true then ((impl_Digits.f k t425).bind fun t440 => (laws_FnNumbers.j0 k bt429.1 bt429.2 t431 bt432.2.1 bt432.2.2 t435 (t440.toList != t424.toList))) else (laws_FnNumbers.j0 k bt429.1 bt429.2 t431 bt432.2.1 bt432.2.2 t435 false)) else (laws_FnNumbers.j0 k bt429.1 bt429.2 t431 bt432.2.1 bt432.2.2 t435 true))) else (laws_FnNumbers.j0 k bt429.1 bt429.2 t431 bt432.2.1 bt432.2.2 t435 true)))) else (laws_FnNumbers.j0 k bt429.1 bt429.2 t431 bt432.2.1 bt432.2.2 t435 true)) else (laws_FnNumbers.j0 k bt429.1 bt429.2 t431 bt432.2.1 bt432.2.2 t435 true)))))))) = some r := H
    have A8 := Aside0.mk A80
    clear A80
    replace H := Option.bind_eq_some_iff.mp H
    obtain ⟨⟨t429, t430⟩, A90, H⟩ := H
    replace H : ((impl_CeilDiv.f t429 t430).bind fun t431 => ((spec_DrawClamp.f k l0).bind fun bt432 => ((impl_Clamp.f bt432.1 bt432.2.1 bt432.2.2).bind fun t435 => ((impl_Digits.f k t423).bind fun t436 => ((spec_Digits.f k t423).bind fun t437 => (if t436.toList = t437.toList then (if t425 = t427 then (if (t426 != t428) = true then (laws_FnNumbers.j0 k t429 t430 t431 bt432.2.1 bt432.2.2 t435 true) else ((spec_CeilDiv.f t429 t430).bind fun t438 => (if t431 = t438 then ((spec_Clamp.f bt432.1 bt432.2.1 bt432.2.2).bind fun t439 => (if t435 = t439 then (if t426 = true then ((impl_Digits.f k t425).bind fun t440 => (laws_FnNumbers.j0 k t429 t430 t431 bt432.2.1 bt432.2.2 t435 (t440.toList != t424.toList))) else (laws_FnNumbers.j0 k t429 t430 t431 bt432.2.1 bt432.2.2 t435 false)) else (laws_FnNumbers.j0 k t429 t430 t431 bt432.2.1 bt432.2.2 t435 true))) else (laws_FnNumbers.j0 k t429 t430 t431 bt432.2.1 bt432.2.2 t435 true)))) else (laws_FnNumbers.j0 k t429 t430 t431 bt432.2.1 bt432.2.2 t435 true)) else (laws_FnNumbers.j0 k t429 t430 t431 bt432.2.1 bt432.2.2 t435 true))))))) = some r := H
    have A9 := Aside0.mk A90
    clear A90
    replace H := Option.bind_eq_some_iff.mp H
    obtain ⟨t431, A100, H⟩ := H
    replace H : ((spec_DrawClamp.f k l0).bind fun bt432 => ((impl_Clamp.f bt432.1 bt432.2.1 bt432.2.2).bind fun t435 => ((impl_Digits.f k t423).bind fun t436 => ((spec_Digits.f k t423).bind fun t437 => (if t436.toList = t437.toList then (if t425 = t427 then (if (t426 != t428) = true then (laws_FnNumbers.j0 k t429 t430 t431 bt432.2.1 bt432.2.2 t435 true) else ((spec_CeilDiv.f t429 t430).bind fun t438 => (if t431 = t438 then ((spec_Clamp.f bt432.1 bt432.2.1 bt432.2.2).bind fun t439 => (if t435 = t439 then (if t426 = true then ((impl_Digits.f k t425).bind fun t440 => (laws_FnNumbers.j0 k t429 t430 t431 bt432.2.1 bt432.2.2 t435 (t440.toList != t424.toList))) else (laws_FnNumbers.j0 k t429 t430 t431 bt432.2.1 bt432.2.2 t435 false)) else (laws_FnNumbers.j0 k t429 t430 t431 bt432.2.1 bt432.2.2 t435 true))) else (laws_FnNumbers.j0 k t429 t430 t431 bt432.2.1 bt432.2.2 t435 true)))) else (laws_FnNumbers.j0 k t429 t430 t431 bt432.2.1 bt432.2.2 t435 true)) else (laws_FnNumbers.j0 k t429 t430 t431 bt432.2.1 bt432.2.2 t435 true)))))) = some r := H
    have A10 := Aside0.mk A100
    clear A100
    replace H := Option.bind_eq_some_iff.mp H
    obtain ⟨⟨t432, t433, t434⟩, A110, H⟩ := H
    replace H : ((impl_Clamp.f t432 t433 t434).bind fun t435 => ((impl_Digits.f k t423).bind fun t436 => ((spec_Digits.f k t423).bind fun t437 => (if t436.toList = t437.toList then (if t425 = t427 then (if (t426 != t428) = true then (laws_FnNumbers.j0 k t429 t430 t431 t433 t434 t435 true) else ((spec_CeilDiv.f t429 t430).bind fun t438 => (if t431 = t438 then ((spec_Clamp.f t432 t433 t434).bind fun t439 => (if t435 = t439 then (if t426 = true then ((impl_Digits.f k t425).bind fun t440 => (laws_FnNumbers.j0 k t429 t430 t431 t433 t434 t435 (t440.toList != t424.toList))) else (laws_FnNumbers.j0 k t429 t430 t431 t433 t434 t435 false)) else (laws_FnNumbers.j0 k t429 t430 t431 t433 t434 t435 true))) else (laws_FnNumbers.j0 k t429 t430 t431 t433 t434 t435 true)))) else (laws_FnNumbers.j0 k t429 t430 t431 t433 t434 t435 true)) else (laws_FnNumbers.j0 k t429 t430 t431 t433 t434 t435 true))))) = some r := H
    have A11 := Aside0.mk A110
    clear A110
    replace H := Option.bind_eq_some_iff.mp H
    obtain ⟨t435, A120, H⟩ := H
    replace H : ((impl_Digits.f k t423).bind fun t436 => ((spec_Digits.f k t423).bind fun t437 => (if t436.toList = t437.toList then (if t425 = t427 then (if (t426 != t428) = true then (laws_FnNumbers.j0 k t429 t430 t431 t433 t434 t435 true) else ((spec_CeilDiv.f t429 t430).bind fun t438 => (if t431 = t438 then ((spec_Clamp.f t432 t433 t434).bind fun t439 => (if t435 = t439 then (if t426 = true then ((impl_Digits.f k t425).bind fun t440 => (laws_FnNumbers.j0 k t429 t430 t431 t433 t434 t435 (t440.toList != t424.toList))) else (laws_FnNumbers.j0 k t429 t430 t431 t433 t434 t435 false)) else (laws_FnNumbers.j0 k t429 t430 t431 t433 t434 t435 true))) else (laws_FnNumbers.j0 k t429 t430 t431 t433 t434 t435 true)))) else (laws_FnNumbers.j0 k t429 t430 t431 t433 t434 t435 true)) else (laws_FnNumbers.j0 k t429 t430 t431 t433 t434 t435 true)))) = some r := H
    have A12 := Aside0.mk A120
    clear A120
    have HC13 := Aside0.mk H
    clear H
    go_upto_region 11 with (first | (go_at_call 51; (with_reducible refine (spec_DrawDigits.calls k _ _ l0 t423 _ ?side1 ?side2 A5.out).mono ?_); (case side1 => repeat (first | exact (Kd.C_below HR0.out HB.out) | (with_reducible refine Kd.C_alloc ?_ _) | (with_reducible refine Kd.C_drewN ?_ _) | (with_reducible refine Kd.C_drew ?_))); (case side2 => exact HC0.out); rintro e w14 ⟨rfl, hb⟩; have n0_ := Aside0.mk (below_step (by repeat (first | (with_reducible first | exact HB.out | apply below_alloc | apply pw_below_drewN | apply below_drew1) | exact HB.out)) hb); clear HB; have HB := n0_; clear n0_; (try clear hb); (try clear hb2); (try clear hk); (try clear hi)) | (go_at_call 52; (with_reducible refine (spec_DrawNumber.calls k _ _ l0 t424 _ ?side1 ?side2 A6.out).mono ?_); (case side1 => repeat (first | exact (Kd.C_below HR0.out HB.out) | (with_reducible refine Kd.C_alloc ?_ _) | (with_reducible refine Kd.C_drewN ?_ _) | (with_reducible refine Kd.C_drew ?_))); (case side2 => exact HC0.out); rintro e w15 ⟨rfl, hb⟩; have n0_ := Aside0.mk (below_step (by repeat (first | (with_reducible first | exact HB.out | apply below_alloc | apply pw_below_drewN | apply below_drew1) | exact HB.out)) hb); clear HB; have HB := n0_; clear n0_; (try clear hb); (try clear hb2); (try clear hk); (try clear hi)) | (go_at_call 45; (with_reducible refine (impl_Number.calls k t424 t425 t426 _ A7.out).mono ?_); rintro e w' ⟨rfl, ⟨nd, rfl⟩⟩; (try first | exact ⟨rfl, _, World.drewN_drewN _ _ _⟩ | exact ⟨rfl, _, Eq.trans (World.drewN_drewN _ _ _) (congrArg (World.drewN _) (Nat.add_assoc _ _ _))⟩)) | (go_at_call 44; (with_reducible refine (spec_Number.calls k t424 t427 t428 _ A8.out).mono ?_); rintro e w16 ⟨rfl, hb⟩; have n0_ := Aside0.mk (below_step (by repeat (first | (with_reducible first | exact HB.out | apply below_alloc | apply pw_below_drewN | apply below_drew1) | exact HB.out)) hb); clear HB; have HB := n0_; clear n0_; (try clear hb); (try clear hb2); (try clear hk); (try clear hi)) | (go_at_call 53; (with_reducible refine (spec_DrawCeilDiv.calls k _ _ l0 t429 t430 _ ?side1 ?side2 A9.out).mono ?_); (case side1 => repeat (first | exact (Kd.C_below HR0.out HB.out) | (with_reducible refine Kd.C_alloc ?_ _) | (with_reducible refine Kd.C_drewN ?_ _) | (with_reducible refine Kd.C_drew ?_))); (case side2 => exact HC0.out); rintro e w17 ⟨rfl, hb⟩; have n0_ := Aside0.mk (below_step (by repeat (first | (with_reducible first | exact HB.out | apply below_alloc | apply pw_below_drewN | apply below_drew1) | exact HB.out)) hb); clear HB; have HB := n0_; clear n0_; (try clear hb); (try clear hb2); (try clear hk); (try clear hi)) | (go_at_call 54; (with_reducible refine (impl_CeilDiv.calls t429 t430 t431 _ A10.out).mono ?_); rintro e w' ⟨rfl, ⟨nd, rfl⟩⟩; (try first | exact ⟨rfl, _, World.drewN_drewN _ _ _⟩ | exact ⟨rfl, _, Eq.trans (World.drewN_drewN _ _ _) (congrArg (World.drewN _) (Nat.add_assoc _ _ _))⟩)) | (go_at_call 55; (with_reducible refine (spec_DrawClamp.calls k _ _ l0 t432 t433 t434 _ ?side1 ?side2 A11.out).mono ?_); (case side1 => repeat (first | exact (Kd.C_below HR0.out (by repeat (first | (with_reducible first | exact HB.out | apply below_alloc | apply pw_below_drewN | apply below_drew1) | exact HB.out))) | (with_reducible refine Kd.C_alloc ?_ _) | (with_reducible refine Kd.C_drewN ?_ _) | (with_reducible refine Kd.C_drew ?_))); (case side2 => exact HC0.out); rintro e w18 ⟨rfl, hb⟩; have n0_ := Aside0.mk (below_step (by repeat (first | (with_reducible first | exact HB.out | apply below_alloc | apply pw_below_drewN | apply below_drew1) | exact HB.out)) hb); clear HB; have HB := n0_; clear n0_; (try clear hb); (try clear hb2); (try clear hk); (try clear hi)) | (go_at_call 56; (with_reducible refine (impl_Clamp.calls t432 t433 t434 t435 _ A12.out).mono ?_); rintro e w' ⟨rfl, ⟨nd, rfl⟩⟩; (try first | exact ⟨rfl, _, World.drewN_drewN _ _ _⟩ | exact ⟨rfl, _, Eq.trans (World.drewN_drewN _ _ _) (congrArg (World.drewN _) (Nat.add_assoc _ _ _))⟩)))
    repeat (go_quiet (first | (go_at_call 51; (with_reducible refine (spec_DrawDigits.calls k _ _ l0 t423 _ ?side1 ?side2 A5.out).mono ?_); (case side1 => repeat (first | exact (Kd.C_below HR0.out HB.out) | (with_reducible refine Kd.C_alloc ?_ _) | (with_reducible refine Kd.C_drewN ?_ _) | (with_reducible refine Kd.C_drew ?_))); (case side2 => exact HC0.out); rintro e w14 ⟨rfl, hb⟩; have n0_ := Aside0.mk (below_step (by repeat (first | (with_reducible first | exact HB.out | apply below_alloc | apply pw_below_drewN | apply below_drew1) | exact HB.out)) hb); clear HB; have HB := n0_; clear n0_; (try clear hb); (try clear hb2); (try clear hk); (try clear hi)) | (go_at_call 52; (with_reducible refine (spec_DrawNumber.calls k _ _ l0 t424 _ ?side1 ?side2 A6.out).mono ?_); (case side1 => repeat (first | exact (Kd.C_below HR0.out HB.out) | (with_reducible refine Kd.C_alloc ?_ _) | (with_reducible refine Kd.C_drewN ?_ _) | (with_reducible refine Kd.C_drew ?_))); (case side2 => exact HC0.out); rintro e w15 ⟨rfl, hb⟩; have n0_ := Aside0.mk (below_step (by repeat (first | (with_reducible first | exact HB.out | apply below_alloc | apply pw_below_drewN | apply below_drew1) | exact HB.out)) hb); clear HB; have HB := n0_; clear n0_; (try clear hb); (try clear hb2); (try clear hk); (try clear hi)) | (go_at_call 45; (with_reducible refine (impl_Number.calls k t424 t425 t426 _ A7.out).mono ?_); rintro e w' ⟨rfl, ⟨nd, rfl⟩⟩; (try first | exact ⟨rfl, _, World.drewN_drewN _ _ _⟩ | exact ⟨rfl, _, Eq.trans (World.drewN_drewN _ _ _) (congrArg (World.drewN _) (Nat.add_assoc _ _ _))⟩)) | (go_at_call 44; (with_reducible refine (spec_Number.calls k t424 t427 t428 _ A8.out).mono ?_); rintro e w16 ⟨rfl, hb⟩; have n0_ := Aside0.mk (below_step (by repeat (first | (with_reducible first | exact HB.out | apply below_alloc | apply pw_below_drewN | apply below_drew1) | exact HB.out)) hb); clear HB; have HB := n0_; clear n0_; (try clear hb); (try clear hb2); (try clear hk); (try clear hi)) | (go_at_call 53; (with_reducible refine (spec_DrawCeilDiv.calls k _ _ l0 t429 t430 _ ?side1 ?side2 A9.out).mono ?_); (case side1 => repeat (first | exact (Kd.C_below HR0.out HB.out) | (with_reducible refine Kd.C_alloc ?_ _) | (with_reducible refine Kd.C_drewN ?_ _) | (with_reducible refine Kd.C_drew ?_))); (case side2 => exact HC0.out); rintro e w17 ⟨rfl, hb⟩; have n0_ := Aside0.mk (below_step (by repeat (first | (with_reducible first | exact HB.out | apply below_alloc | apply pw_below_drewN | apply below_drew1) | exact HB.out)) hb); clear HB; have HB := n0_; clear n0_; (try clear hb); (try clear hb2); (try clear hk); (try clear hi)) | (go_at_call 54; (with_reducible refine (impl_CeilDiv.calls t429 t430 t431 _ A10.out).mono ?_); rintro e w' ⟨rfl, ⟨nd, rfl⟩⟩; (try first | exact ⟨rfl, _, World.drewN_drewN _ _ _⟩ | exact ⟨rfl, _, Eq.trans (World.drewN_drewN _ _ _) (congrArg (World.drewN _) (Nat.add_assoc _ _ _))⟩)) | (go_at_call 55; (with_reducible refine (spec_DrawClamp.calls k _ _ l0 t432 t433 t434 _ ?side1 ?side2 A11.out).mono ?_); (case side1 => repeat (first | exact (Kd.C_below HR0.out (by repeat (first | (with_reducible first | exact HB.out | apply below_alloc | apply pw_below_drewN | apply below_drew1) | exact HB.out))) | (with_reducible refine Kd.C_alloc ?_ _) | (with_reducible refine Kd.C_drewN ?_ _) | (with_reducible refine Kd.C_drew ?_))); (case side2 => exact HC0.out); rintro e w18 ⟨rfl, hb⟩; have n0_ := Aside0.mk (below_step (by repeat (first | (with_reducible first | exact HB.out | apply below_alloc | apply pw_below_drewN | apply below_drew1) | exact HB.out)) hb); clear HB; have HB := n0_; clear n0_; (try clear hb); (try clear hb2); (try clear hk); (try clear hi)) | (go_at_call 56; (with_reducible refine (impl_Clamp.calls t432 t433 t434 t435 _ A12.out).mono ?_); rintro e w' ⟨rfl, ⟨nd, rfl⟩⟩; (try first | exact ⟨rfl, _, World.drewN_drewN _ _ _⟩ | exact ⟨rfl, _, Eq.trans (World.drewN_drewN _ _ _) (congrArg (World.drewN _) (Nat.add_assoc _ _ _))⟩))); go_upto_region 11 with (first | (go_at_call 51; (with_reducible refine (spec_DrawDigits.calls k _ _ l0 t423 _ ?side1 ?side2 A5.out).mono ?_); (case side1 => repeat (first | exact (Kd.C_below HR0.out HB.out) | (with_reducible refine Kd.C_alloc ?_ _) | (with_reducible refine Kd.C_drewN ?_ _) | (with_reducible refine Kd.C_drew ?_))); (case side2 => exact HC0.out); rintro e w14 ⟨rfl, hb⟩; have n0_ := Aside0.mk (below_step (by repeat (first | (with_reducible first | exact HB.out | apply below_alloc | apply pw_below_drewN | apply below_drew1) | exact HB.out)) hb); clear HB; have HB := n0_; clear n0_; (try clear hb); (try clear hb2); (try clear hk); (try clear hi)) | (go_at_call 52; (with_reducible refine (spec_DrawNumber.calls k _ _ l0 t424 _ ?side1 ?side2 A6.out).mono ?_); (case side1 => repeat (first | exact (Kd.C_below HR0.out HB.out) | (with_reducible refine Kd.C_alloc ?_ _) | (with_reducible refine Kd.C_drewN ?_ _) | (with_reducible refine Kd.C_drew ?_))); (case side2 => exact HC0.out); rintro e w15 ⟨rfl, hb⟩; have n0_ := Aside0.mk (below_step (by repeat (first | (with_reducible first | exact HB.out | apply below_alloc | apply pw_below_drewN | apply below_drew1) | exact HB.out)) hb); clear HB; have HB := n0_; clear n0_; (try clear hb); (try clear hb2); (try clear hk); (try clear hi)) | (go_at_call 45; (with_reducible refine (impl_Number.calls k t424 t425 t426 _ A7.out).mono ?_); rintro e w' ⟨rfl, ⟨nd, rfl⟩⟩; (try first | exact ⟨rfl, _, World.drewN_drewN _ _ _⟩ | exact ⟨rfl, _, Eq.trans (World.drewN_drewN _ _ _) (congrArg (World.drewN _) (Nat.add_assoc _ _ _))⟩)) | (go_at_call 44; (with_reducible refine (spec_Number.calls k t424 t427 t428 _ A8.out).mono ?_); rintro e w16 ⟨rfl, hb⟩; have n0_ := Aside0.mk (below_step (by repeat (first | (with_reducible first | exact HB.out | apply below_alloc | apply pw_below_drewN | apply below_drew1) | exact HB.out)) hb); clear HB; have HB := n0_; clear n0_; (try clear hb); (try clear hb2); (try clear hk); (try clear hi)) | (go_at_call 53; (with_reducible refine (spec_DrawCeilDiv.calls k _ _ l0 t429 t430 _ ?side1 ?side2 A9.out).mono ?_); (case side1 => repeat (first | exact (Kd.C_below HR0.out HB.out) | (with_reducible refine Kd.C_alloc ?_ _) | (with_reducible refine Kd.C_drewN ?_ _) | (with_reducible refine Kd.C_drew ?_))); (case side2 => exact HC0.out); rintro e w17 ⟨rfl, hb⟩; have n0_ := Aside0.mk (below_step (by repeat (first | (with_reducible first | exact HB.out | apply below_alloc | apply pw_below_drewN | apply below_drew1) | exact HB.out)) hb); clear HB; have HB := n0_; clear n0_; (try clear hb); (try clear hb2); (try clear hk); (try clear hi)) | (go_at_call 54; (with_reducible refine (impl_CeilDiv.calls t429 t430 t431 _ A10.out).mono ?_); rintro e w' ⟨rfl, ⟨nd, rfl⟩⟩; (try first | exact ⟨rfl, _, World.drewN_drewN _ _ _⟩ | exact ⟨rfl, _, Eq.trans (World.drewN_drewN _ _ _) (congrArg (World.drewN _) (Nat.add_assoc _ _ _))⟩)) | (go_at_call 55; (with_reducible refine (spec_DrawClamp.calls k _ _ l0 t432 t433 t434 _ ?side1 ?side2 A11.out).mono ?_); (case side1 => repeat (first | exact (Kd.C_below HR0.out (by repeat (first | (with_reducible first | exact HB.out | apply below_alloc | apply pw_below_drewN | apply below_drew1) | exact HB.out))) | (with_reducible refine Kd.C_alloc ?_ _) | (with_reducible refine Kd.C_drewN ?_ _) | (with_reducible refine Kd.C_drew ?_))); (case side2 => exact HC0.out); rintro e w18 ⟨rfl, hb⟩; have n0_ := Aside0.mk (below_step (by repeat (first | (with_reducible first | exact HB.out | apply below_alloc | apply pw_below_drewN | apply below_drew1) | exact HB.out)) hb); clear HB; have HB := n0_; clear n0_; (try clear hb); (try clear hb2); (try clear hk); (try clear hi)) | (go_at_call 56; (with_reducible refine (impl_Clamp.calls t432 t433 t434 t435 _ A12.out).mono ?_); rintro e w' ⟨rfl, ⟨nd, rfl⟩⟩; (try first | exact ⟨rfl, _, World.drewN_drewN _ _ _⟩ | exact ⟨rfl, _, Eq.trans (World.drewN_drewN _ _ _) (congrArg (World.drewN _) (Nat.add_assoc _ _ _))⟩))))
    (try simp only [Act.put, List.setIfInBounds_toArray, List.set_cons_zero, List.set_cons_succ])
    go_cut [88] (fun v88 wc => ∃ (kq : Nat) (x88_12 : Bool), v88 = .bool x88_12 ∧ Aside0 (laws_FnNumbers.j0 kq t429 t430 t431 t433 t434 t435 x88_12 = some r) ∧ Aside0 (kq ≤ k) ∧ Aside0 (Below w.heap.size w wc))
    case first =>
      have H := HC13.out
      clear HC13
      replace H := Option.bind_eq_some_iff.mp H
      obtain ⟨t436, A190, H⟩ := H
      replace H : ((spec_Digits.f k t423).bind fun t437 => (if t436.toList = t437.toList then (if t425 = t427 then (if (t426 != t428) = true then (laws_FnNumbers.j0 k t429 t430 t431 t433 t434 t435 true) else ((spec_CeilDiv.f t429 t430).bind fun t438 => (if t431 = t438 then ((spec_Clamp.f t432 t433 t434).bind fun t439 => (if t435 = t439 then (if t426 = true then ((impl_Digits.f k t425).bind fun t440 => (laws_FnNumbers.j0 k t429 t430 t431 t433 t434 t435 (t440.toList != t424.toList))) else (laws_FnNumbers.j0 k t429 t430 t431 t433 t434 t435 false)) else (laws_FnNumbers.j0 k t429 t430 t431 t433 t434 t435 true))) else (laws_FnNumbers.j0 k t429 t430 t431 t433 t434 t435 true)))) else (laws_FnNumbers.j0 k t429 t430 t431 t433 t434 t435 true)) else (laws_FnNumbers.j0 k t429 t430 t431 t433 t434 t435 true))) = some r := H
      have A19 := Aside0.mk A190
      clear A190
      replace H := Option.bind_eq_some_iff.mp H
      obtain ⟨t437, A200, H⟩ := H
      replace H : (if t436.toList = t437.toList then (if t425 = t427 then (if (t426 != t428) = true then (laws_FnNumbers.j0 k t429 t430 t431 t433 t434 t435 true) else ((spec_CeilDiv.f t429 t430).bind fun t438 => (if t431 = t438 then ((spec_Clamp.f t432 t433 t434).bind fun t439 => (if t435 = t439 then (if t426 = true then ((impl_Digits.f k t425).bind fun t440 => (laws_FnNumbers.j0 k t429 t430 t431 t433 t434 t435 (t440.toList != t424.toList))) else (laws_FnNumbers.j0 k t429 t430 t431 t433 t434 t435 false)) else (laws_FnNumbers.j0 k t429 t430 t431 t433 t434 t435 true))) else (laws_FnNumbers.j0 k t429 t430 t431 t433 t434 t435 true)))) else (laws_FnNumbers.j0 k t429 t430 t431 t433 t434 t435 true)) else (laws_FnNumbers.j0 k t429 t430 t431 t433 t434 t435 true)) = some r := H
      have A20 := Aside0.mk A200
      clear A200
      by_cases c21 : t436.toList = t437.toList
      · rw [if_pos c21] at H
        have c21b0 : (t436.toList == t437.toList) = true := beq_iff_eq.mpr c21
        have c21b1 : (t436.toList != t437.toList) = false := bne_eq_false_iff_eq.mpr c21
        clear c21
        (first | rw [c21b0] | rw [c21b1] | (simp only [i64_w, i32_w]; rw [c21b0]) | skip)
        by_cases c22 : t425 = t427
        · rw [if_pos c22] at H
          have c22b0 : (t425 == t427) = true := beq_iff_eq.mpr c22
          have c22b1 : (t425 != t427) = false := bne_eq_false_iff_eq.mpr c22
          clear c22
          by_cases c23 : (t426 != t428) = true
          · rw [if_pos c23] at H
            have c23b0 : (t426 != t428) = true := c23
            (try (have c23b1 : decide (t426 = t428) = false := by simpa using c23))
            (try (have c23b2 : (t426 == t428) = false := by simpa using c23))
            (try (have c23b3 : ¬ (t426 = t428) := by simpa using c23))
            clear c23
            have H' := Aside0.mk H
            clear H
            go_wp2_with (first | (go_at_call 28; (with_reducible refine (impl_Digits.calls k t423 t436 _ A19.out).mono ?_); rintro e w' ⟨rfl, ⟨nd, rfl⟩⟩; (try first | exact ⟨rfl, _, World.drewN_drewN _ _ _⟩ | exact ⟨rfl, _, Eq.trans (World.drewN_drewN _ _ _) (congrArg (World.drewN _) (Nat.add_assoc _ _ _))⟩)) | (go_at_call 27; (with_reducible refine (spec_Digits.calls k t423 t437 _ A20.out).mono ?_); rintro e w24 ⟨rfl, hb⟩; have n0_ := Aside0.mk (below_step (by repeat (first | (with_reducible first | exact HB.out | apply below_alloc | apply pw_below_drewN | apply below_drew1) | exact HB.out)) hb); clear HB; have HB := n0_; clear n0_; (try clear hb); (try clear hb2); (try clear hk); (try clear hi)))
            repeat (go_quiet (first | (go_at_call 28; (with_reducible refine (impl_Digits.calls k t423 t436 _ A19.out).mono ?_); rintro e w' ⟨rfl, ⟨nd, rfl⟩⟩; (try first | exact ⟨rfl, _, World.drewN_drewN _ _ _⟩ | exact ⟨rfl, _, Eq.trans (World.drewN_drewN _ _ _) (congrArg (World.drewN _) (Nat.add_assoc _ _ _))⟩)) | (go_at_call 27; (with_reducible refine (spec_Digits.calls k t423 t437 _ A20.out).mono ?_); rintro e w24 ⟨rfl, hb⟩; have n0_ := Aside0.mk (below_step (by repeat (first | (with_reducible first | exact HB.out | apply below_alloc | apply pw_below_drewN | apply below_drew1) | exact HB.out)) hb); clear HB; have HB := n0_; clear n0_; (try clear hb); (try clear hb2); (try clear hk); (try clear hi))); try go_wp2_with (first | (go_at_call 28; (with_reducible refine (impl_Digits.calls k t423 t436 _ A19.out).mono ?_); rintro e w' ⟨rfl, ⟨nd, rfl⟩⟩; (try first | exact ⟨rfl, _, World.drewN_drewN _ _ _⟩ | exact ⟨rfl, _, Eq.trans (World.drewN_drewN _ _ _) (congrArg (World.drewN _) (Nat.add_assoc _ _ _))⟩)) | (go_at_call 27; (with_reducible refine (spec_Digits.calls k t423 t437 _ A20.out).mono ?_); rintro e w24 ⟨rfl, hb⟩; have n0_ := Aside0.mk (below_step (by repeat (first | (with_reducible first | exact HB.out | apply below_alloc | apply pw_below_drewN | apply below_drew1) | exact HB.out)) hb); clear HB; have HB := n0_; clear n0_; (try clear hb); (try clear hb2); (try clear hk); (try clear hi))))
            go_meet
            case rel => exact ⟨_, (true), (by first | rfl | (simp; done) | (simp [*]; done)), H', ⟨by first | omega | exact Nat.le_refl _⟩, ⟨by repeat (first | (with_reducible first | exact HB.out | apply below_alloc | apply pw_below_drewN | apply below_drew1) | exact HB.out)⟩⟩
          · rw [if_neg c23] at H
            have c23b0 : (t426 != t428) = false := by simpa using c23
            (try (have c23b1 : decide (t426 = t428) = true := by simpa using c23))
            (try (have c23b2 : (t426 == t428) = true := by simpa using c23))
            clear c23
            replace H := Option.bind_eq_some_iff.mp H
            obtain ⟨t438, A250, H⟩ := H
            replace H : (if t431 = t438 then ((spec_Clamp.f t432 t433 t434).bind fun t439 => (if t435 = t439 then (if t426 = true then ((impl_Digits.f k t425).bind fun t440 => (laws_FnNumbers.j0 k t429 t430 t431 t433 t434 t435 (t440.toList != t424.toList))) else (laws_FnNumbers.j0 k t429 t430 t431 t433 t434 t435 false)) else (laws_FnNumbers.j0 k t429 t430 t431 t433 t434 t435 true))) else (laws_FnNumbers.j0 k t429 t430 t431 t433 t434 t435 true)) = some r := H
            have A25 := Aside0.mk A250
            clear A250
            by_cases c26 : t431 = t438
            · rw [if_pos c26] at H
              have c26b0 : (t431 == t438) = true := beq_iff_eq.mpr c26
              have c26b1 : (t431 != t438) = false := bne_eq_false_iff_eq.mpr c26
              clear c26
              replace H := Option.bind_eq_some_iff.mp H
              obtain ⟨t439, A270, H⟩ := H
              replace H : (if t435 = t439 then (if t426 = true then ((impl_Digits.f k t425).bind fun t440 => (laws_FnNumbers.j0 k t429 t430 t431 t433 t434 t435 (t440.toList != t424.toList))) else (laws_FnNumbers.j0 k t429 t430 t431 t433 t434 t435 false)) else (laws_FnNumbers.j0 k t429 t430 t431 t433 t434 t435 true)) = some r := H
              have A27 := Aside0.mk A270
              clear A270
              by_cases c28 : t435 = t439
              · rw [if_pos c28] at H
                have c28b0 : (t435 == t439) = true := beq_iff_eq.mpr c28
                have c28b1 : (t435 != t439) = false := bne_eq_false_iff_eq.mpr c28
                clear c28
                by_cases c29 : t426 = true
                · subst c29
                  have H1 : ((impl_Digits.f k t425).bind fun t440 => (laws_FnNumbers.j0 k t429 t430 t431 t433 t434 t435 (t440.toList != t424.toList))) = some r := by rw [if_pos rfl] at H; exact H
                  clear H
                  have H := H1
                  clear H1
                  replace H := Option.bind_eq_some_iff.mp H
                  obtain ⟨t440, A300, H⟩ := H
                  replace H : (laws_FnNumbers.j0 k t429 t430 t431 t433 t434 t435 (t440.toList != t424.toList)) = some r := H
                  have A30 := Aside0.mk A300
                  clear A300
                  have H' := Aside0.mk H
                  clear H
                  go_wp2_with (first | (go_at_call 28; (with_reducible refine (impl_Digits.calls k t423 t436 _ A19.out).mono ?_); rintro e w' ⟨rfl, ⟨nd, rfl⟩⟩; (try first | exact ⟨rfl, _, World.drewN_drewN _ _ _⟩ | exact ⟨rfl, _, Eq.trans (World.drewN_drewN _ _ _) (congrArg (World.drewN _) (Nat.add_assoc _ _ _))⟩)) | (go_at_call 27; (with_reducible refine (spec_Digits.calls k t423 t437 _ A20.out).mono ?_); rintro e w31 ⟨rfl, hb⟩; have n0_ := Aside0.mk (below_step (by repeat (first | (with_reducible first | exact HB.out | apply below_alloc | apply pw_below_drewN | apply below_drew1) | exact HB.out)) hb); clear HB; have HB := n0_; clear n0_; (try clear hb); (try clear hb2); (try clear hk); (try clear hi)) | (go_at_call 57; (with_reducible refine (spec_CeilDiv.calls t429 t430 t438 _ A25.out).mono ?_); rintro e w' ⟨rfl, ⟨nd, rfl⟩⟩; (try first | exact ⟨rfl, _, World.drewN_drewN _ _ _⟩ | exact ⟨rfl, _, Eq.trans (World.drewN_drewN _ _ _) (congrArg (World.drewN _) (Nat.add_assoc _ _ _))⟩)) | (go_at_call 58; (with_reducible refine (spec_Clamp.calls t432 t433 t434 t439 _ A27.out).mono ?_); rintro e w' ⟨rfl, ⟨nd, rfl⟩⟩; (try first | exact ⟨rfl, _, World.drewN_drewN _ _ _⟩ | exact ⟨rfl, _, Eq.trans (World.drewN_drewN _ _ _) (congrArg (World.drewN _) (Nat.add_assoc _ _ _))⟩)) | (go_at_call 28; (with_reducible refine (impl_Digits.calls k t425 t440 _ A30.out).mono ?_); rintro e w' ⟨rfl, ⟨nd, rfl⟩⟩; (try first | exact ⟨rfl, _, World.drewN_drewN _ _ _⟩ | exact ⟨rfl, _, Eq.trans (World.drewN_drewN _ _ _) (congrArg (World.drewN _) (Nat.add_assoc _ _ _))⟩)))
                  repeat (go_quiet (first | (go_at_call 28; (with_reducible refine (impl_Digits.calls k t423 t436 _ A19.out).mono ?_); rintro e w' ⟨rfl, ⟨nd, rfl⟩⟩; (try first | exact ⟨rfl, _, World.drewN_drewN _ _ _⟩ | exact ⟨rfl, _, Eq.trans (World.drewN_drewN _ _ _) (congrArg (World.drewN _) (Nat.add_assoc _ _ _))⟩)) | (go_at_call 27; (with_reducible refine (spec_Digits.calls k t423 t437 _ A20.out).mono ?_); rintro e w31 ⟨rfl, hb⟩; have n0_ := Aside0.mk (below_step (by repeat (first | (with_reducible first | exact HB.out | apply below_alloc | apply pw_below_drewN | apply below_drew1) | exact HB.out)) hb); clear HB; have HB := n0_; clear n0_; (try clear hb); (try clear hb2); (try clear hk); (try clear hi)) | (go_at_call 57; (with_reducible refine (spec_CeilDiv.calls t429 t430 t438 _ A25.out).mono ?_); rintro e w' ⟨rfl, ⟨nd, rfl⟩⟩; (try first | exact ⟨rfl, _, World.drewN_drewN _ _ _⟩ | exact ⟨rfl, _, Eq.trans (World.drewN_drewN _ _ _) (congrArg (World.drewN _) (Nat.add_assoc _ _ _))⟩)) | (go_at_call 58; (with_reducible refine (spec_Clamp.calls t432 t433 t434 t439 _ A27.out).mono ?_); rintro e w' ⟨rfl, ⟨nd, rfl⟩⟩; (try first | exact ⟨rfl, _, World.drewN_drewN _ _ _⟩ | exact ⟨rfl, _, Eq.trans (World.drewN_drewN _ _ _) (congrArg (World.drewN _) (Nat.add_assoc _ _ _))⟩)) | (go_at_call 28; (with_reducible refine (impl_Digits.calls k t425 t440 _ A30.out).mono ?_); rintro e w' ⟨rfl, ⟨nd, rfl⟩⟩; (try first | exact ⟨rfl, _, World.drewN_drewN _ _ _⟩ | exact ⟨rfl, _, Eq.trans (World.drewN_drewN _ _ _) (congrArg (World.drewN _) (Nat.add_assoc _ _ _))⟩))); try go_wp2_with (first | (go_at_call 28; (with_reducible refine (impl_Digits.calls k t423 t436 _ A19.out).mono ?_); rintro e w' ⟨rfl, ⟨nd, rfl⟩⟩; (try first | exact ⟨rfl, _, World.drewN_drewN _ _ _⟩ | exact ⟨rfl, _, Eq.trans (World.drewN_drewN _ _ _) (congrArg (World.drewN _) (Nat.add_assoc _ _ _))⟩)) | (go_at_call 27; (with_reducible refine (spec_Digits.calls k t423 t437 _ A20.out).mono ?_); rintro e w31 ⟨rfl, hb⟩; have n0_ := Aside0.mk (below_step (by repeat (first | (with_reducible first | exact HB.out | apply below_alloc | apply pw_below_drewN | apply below_drew1) | exact HB.out)) hb); clear HB; have HB := n0_; clear n0_; (try clear hb); (try clear hb2); (try clear hk); (try clear hi)) | (go_at_call 57; (with_reducible refine (spec_CeilDiv.calls t429 t430 t438 _ A25.out).mono ?_); rintro e w' ⟨rfl, ⟨nd, rfl⟩⟩; (try first | exact ⟨rfl, _, World.drewN_drewN _ _ _⟩ | exact ⟨rfl, _, Eq.trans (World.drewN_drewN _ _ _) (congrArg (World.drewN _) (Nat.add_assoc _ _ _))⟩)) | (go_at_call 58; (with_reducible refine (spec_Clamp.calls t432 t433 t434 t439 _ A27.out).mono ?_); rintro e w' ⟨rfl, ⟨nd, rfl⟩⟩; (try first | exact ⟨rfl, _, World.drewN_drewN _ _ _⟩ | exact ⟨rfl, _, Eq.trans (World.drewN_drewN _ _ _) (congrArg (World.drewN _) (Nat.add_assoc _ _ _))⟩)) | (go_at_call 28; (with_reducible refine (impl_Digits.calls k t425 t440 _ A30.out).mono ?_); rintro e w' ⟨rfl, ⟨nd, rfl⟩⟩; (try first | exact ⟨rfl, _, World.drewN_drewN _ _ _⟩ | exact ⟨rfl, _, Eq.trans (World.drewN_drewN _ _ _) (congrArg (World.drewN _) (Nat.add_assoc _ _ _))⟩))))
                  go_meet
                  case rel => exact ⟨_, ((t440.toList != t424.toList)), (by first | rfl | (simp; done) | (simp [*]; done)), H', ⟨by first | omega | exact Nat.le_refl _⟩, ⟨by repeat (first | (with_reducible first | exact HB.out | apply below_alloc | apply pw_below_drewN | apply below_drew1) | exact HB.out)⟩⟩
                · replace c29 := Bool.eq_false_iff.mpr c29
                  subst c29
                  have H1 : (laws_FnNumbers.j0 k t429 t430 t431 t433 t434 t435 false) = some r := by rw [if_neg (show ¬ (false = true) by decide)] at H; exact H
                  clear H
                  have H := H1
                  clear H1
                  have H' := Aside0.mk H
                  clear H
                  go_wp2_with (first | (go_at_call 28; (with_reducible refine (impl_Digits.calls k t423 t436 _ A19.out).mono ?_); rintro e w' ⟨rfl, ⟨nd, rfl⟩⟩; (try first | exact ⟨rfl, _, World.drewN_drewN _ _ _⟩ | exact ⟨rfl, _, Eq.trans (World.drewN_drewN _ _ _) (congrArg (World.drewN _) (Nat.add_assoc _ _ _))⟩)) | (go_at_call 27; (with_reducible refine (spec_Digits.calls k t423 t437 _ A20.out).mono ?_); rintro e w32 ⟨rfl, hb⟩; have n0_ := Aside0.mk (below_step (by repeat (first | (with_reducible first | exact HB.out | apply below_alloc | apply pw_below_drewN | apply below_drew1) | exact HB.out)) hb); clear HB; have HB := n0_; clear n0_; (try clear hb); (try clear hb2); (try clear hk); (try clear hi)) | (go_at_call 57; (with_reducible refine (spec_CeilDiv.calls t429 t430 t438 _ A25.out).mono ?_); rintro e w' ⟨rfl, ⟨nd, rfl⟩⟩; (try first | exact ⟨rfl, _, World.drewN_drewN _ _ _⟩ | exact ⟨rfl, _, Eq.trans (World.drewN_drewN _ _ _) (congrArg (World.drewN _) (Nat.add_assoc _ _ _))⟩)) | (go_at_call 58; (with_reducible refine (spec_Clamp.calls t432 t433 t434 t439 _ A27.out).mono ?_); rintro e w' ⟨rfl, ⟨nd, rfl⟩⟩; (try first | exact ⟨rfl, _, World.drewN_drewN _ _ _⟩ | exact ⟨rfl, _, Eq.trans (World.drewN_drewN _ _ _) (congrArg (World.drewN _) (Nat.add_assoc _ _ _))⟩)))
                  repeat (go_quiet (first | (go_at_call 28; (with_reducible refine (impl_Digits.calls k t423 t436 _ A19.out).mono ?_); rintro e w' ⟨rfl, ⟨nd, rfl⟩⟩; (try first | exact ⟨rfl, _, World.drewN_drewN _ _ _⟩ | exact ⟨rfl, _, Eq.trans (World.drewN_drewN _ _ _) (congrArg (World.drewN _) (Nat.add_assoc _ _ _))⟩)) | (go_at_call 27; (with_reducible refine (spec_Digits.calls k t423 t437 _ A20.out).mono ?_); rintro e w32 ⟨rfl, hb⟩; have n0_ := Aside0.mk (below_step (by repeat (first | (with_reducible first | exact HB.out | apply below_alloc | apply pw_below_drewN | apply below_drew1) | exact HB.out)) hb); clear HB; have HB := n0_; clear n0_; (try clear hb); (try clear hb2); (try clear hk); (try clear hi)) | (go_at_call 57; (with_reducible refine (spec_CeilDiv.calls t429 t430 t438 _ A25.out).mono ?_); rintro e w' ⟨rfl, ⟨nd, rfl⟩⟩; (try first | exact ⟨rfl, _, World.drewN_drewN _ _ _⟩ | exact ⟨rfl, _, Eq.trans (World.drewN_drewN _ _ _) (congrArg (World.drewN _) (Nat.add_assoc _ _ _))⟩)) | (go_at_call 58; (with_reducible refine (spec_Clamp.calls t432 t433 t434 t439 _ A27.out).mono ?_); rintro e w' ⟨rfl, ⟨nd, rfl⟩⟩; (try first | exact ⟨rfl, _, World.drewN_drewN _ _ _⟩ | exact ⟨rfl, _, Eq.trans (World.drewN_drewN _ _ _) (congrArg (World.drewN _) (Nat.add_assoc _ _ _))⟩))); try go_wp2_with (first | (go_at_call 28; (with_reducible refine (impl_Digits.calls k t423 t436 _ A19.out).mono ?_); rintro e w' ⟨rfl, ⟨nd, rfl⟩⟩; (try first | exact ⟨rfl, _, World.drewN_drewN _ _ _⟩ | exact ⟨rfl, _, Eq.trans (World.drewN_drewN _ _ _) (congrArg (World.drewN _) (Nat.add_assoc _ _ _))⟩)) | (go_at_call 27; (with_reducible refine (spec_Digits.calls k t423 t437 _ A20.out).mono ?_); rintro e w32 ⟨rfl, hb⟩; have n0_ := Aside0.mk (below_step (by repeat (first | (with_reducible first | exact HB.out | apply below_alloc | apply pw_below_drewN | apply below_drew1) | exact HB.out)) hb); clear HB; have HB := n0_; clear n0_; (try clear hb); (try clear hb2); (try clear hk); (try clear hi)) | (go_at_call 57; (with_reducible refine (spec_CeilDiv.calls t429 t430 t438 _ A25.out).mono ?_); rintro e w' ⟨rfl, ⟨nd, rfl⟩⟩; (try first | exact ⟨rfl, _, World.drewN_drewN _ _ _⟩ | exact ⟨rfl, _, Eq.trans (World.drewN_drewN _ _ _) (congrArg (World.drewN _) (Nat.add_assoc _ _ _))⟩)) | (go_at_call 58; (with_reducible refine (spec_Clamp.calls t432 t433 t434 t439 _ A27.out).mono ?_); rintro e w' ⟨rfl, ⟨nd, rfl⟩⟩; (try first | exact ⟨rfl, _, World.drewN_drewN _ _ _⟩ | exact ⟨rfl, _, Eq.trans (World.drewN_drewN _ _ _) (congrArg (World.drewN _) (Nat.add_assoc _ _ _))⟩))))
                  go_meet
                  case rel => exact ⟨_, (false), (by first | rfl | (simp; done) | (simp [*]; done)), H', ⟨by first | omega | exact Nat.le_refl _⟩, ⟨by repeat (first | (with_reducible first | exact HB.out | apply below_alloc | apply pw_below_drewN | apply below_drew1) | exact HB.out)⟩⟩
              · rw [if_neg c28] at H
                have c28b0 : (t435 == t439) = false := beq_eq_false_iff_ne.mpr c28
                have c28b1 : (t435 != t439) = true := bne_iff_ne.mpr c28
                have H' := Aside0.mk H
                clear H
                go_wp2_with (first | (go_at_call 28; (with_reducible refine (impl_Digits.calls k t423 t436 _ A19.out).mono ?_); rintro e w' ⟨rfl, ⟨nd, rfl⟩⟩; (try first | exact ⟨rfl, _, World.drewN_drewN _ _ _⟩ | exact ⟨rfl, _, Eq.trans (World.drewN_drewN _ _ _) (congrArg (World.drewN _) (Nat.add_assoc _ _ _))⟩)) | (go_at_call 27; (with_reducible refine (spec_Digits.calls k t423 t437 _ A20.out).mono ?_); rintro e w33 ⟨rfl, hb⟩; have n0_ := Aside0.mk (below_step (by repeat (first | (with_reducible first | exact HB.out | apply below_alloc | apply pw_below_drewN | apply below_drew1) | exact HB.out)) hb); clear HB; have HB := n0_; clear n0_; (try clear hb); (try clear hb2); (try clear hk); (try clear hi)) | (go_at_call 57; (with_reducible refine (spec_CeilDiv.calls t429 t430 t438 _ A25.out).mono ?_); rintro e w' ⟨rfl, ⟨nd, rfl⟩⟩; (try first | exact ⟨rfl, _, World.drewN_drewN _ _ _⟩ | exact ⟨rfl, _, Eq.trans (World.drewN_drewN _ _ _) (congrArg (World.drewN _) (Nat.add_assoc _ _ _))⟩)) | (go_at_call 58; (with_reducible refine (spec_Clamp.calls t432 t433 t434 t439 _ A27.out).mono ?_); rintro e w' ⟨rfl, ⟨nd, rfl⟩⟩; (try first | exact ⟨rfl, _, World.drewN_drewN _ _ _⟩ | exact ⟨rfl, _, Eq.trans (World.drewN_drewN _ _ _) (congrArg (World.drewN _) (Nat.add_assoc _ _ _))⟩)))
                repeat (go_quiet (first | (go_at_call 28; (with_reducible refine (impl_Digits.calls k t423 t436 _ A19.out).mono ?_); rintro e w' ⟨rfl, ⟨nd, rfl⟩⟩; (try first | exact ⟨rfl, _, World.drewN_drewN _ _ _⟩ | exact ⟨rfl, _, Eq.trans (World.drewN_drewN _ _ _) (congrArg (World.drewN _) (Nat.add_assoc _ _ _))⟩)) | (go_at_call 27; (with_reducible refine (spec_Digits.calls k t423 t437 _ A20.out).mono ?_); rintro e w33 ⟨rfl, hb⟩; have n0_ := Aside0.mk (below_step (by repeat (first | (with_reducible first | exact HB.out | apply below_alloc | apply pw_below_drewN | apply below_drew1) | exact HB.out)) hb); clear HB; have HB := n0_; clear n0_; (try clear hb); (try clear hb2); (try clear hk); (try clear hi)) | (go_at_call 57; (with_reducible refine (spec_CeilDiv.calls t429 t430 t438 _ A25.out).mono ?_); rintro e w' ⟨rfl, ⟨nd, rfl⟩⟩; (try first | exact ⟨rfl, _, World.drewN_drewN _ _ _⟩ | exact ⟨rfl, _, Eq.trans (World.drewN_drewN _ _ _) (congrArg (World.drewN _) (Nat.add_assoc _ _ _))⟩)) | (go_at_call 58; (with_reducible refine (spec_Clamp.calls t432 t433 t434 t439 _ A27.out).mono ?_); rintro e w' ⟨rfl, ⟨nd, rfl⟩⟩; (try first | exact ⟨rfl, _, World.drewN_drewN _ _ _⟩ | exact ⟨rfl, _, Eq.trans (World.drewN_drewN _ _ _) (congrArg (World.drewN _) (Nat.add_assoc _ _ _))⟩))); try go_wp2_with (first | (go_at_call 28; (with_reducible refine (impl_Digits.calls k t423 t436 _ A19.out).mono ?_); rintro e w' ⟨rfl, ⟨nd, rfl⟩⟩; (try first | exact ⟨rfl, _, World.drewN_drewN _ _ _⟩ | exact ⟨rfl, _, Eq.trans (World.drewN_drewN _ _ _) (congrArg (World.drewN _) (Nat.add_assoc _ _ _))⟩)) | (go_at_call 27; (with_reducible refine (spec_Digits.calls k t423 t437 _ A20.out).mono ?_); rintro e w33 ⟨rfl, hb⟩; have n0_ := Aside0.mk (below_step (by repeat (first | (with_reducible first | exact HB.out | apply below_alloc | apply pw_below_drewN | apply below_drew1) | exact HB.out)) hb); clear HB; have HB := n0_; clear n0_; (try clear hb); (try clear hb2); (try clear hk); (try clear hi)) | (go_at_call 57; (with_reducible refine (spec_CeilDiv.calls t429 t430 t438 _ A25.out).mono ?_); rintro e w' ⟨rfl, ⟨nd, rfl⟩⟩; (try first | exact ⟨rfl, _, World.drewN_drewN _ _ _⟩ | exact ⟨rfl, _, Eq.trans (World.drewN_drewN _ _ _) (congrArg (World.drewN _) (Nat.add_assoc _ _ _))⟩)) | (go_at_call 58; (with_reducible refine (spec_Clamp.calls t432 t433 t434 t439 _ A27.out).mono ?_); rintro e w' ⟨rfl, ⟨nd, rfl⟩⟩; (try first | exact ⟨rfl, _, World.drewN_drewN _ _ _⟩ | exact ⟨rfl, _, Eq.trans (World.drewN_drewN _ _ _) (congrArg (World.drewN _) (Nat.add_assoc _ _ _))⟩))))
                go_meet
                case rel => exact ⟨_, (true), (by first | rfl | (simp; done) | (simp [*]; done)), H', ⟨by first | omega | exact Nat.le_refl _⟩, ⟨by repeat (first | (with_reducible first | exact HB.out | apply below_alloc | apply pw_below_drewN | apply below_drew1) | exact HB.out)⟩⟩
            · rw [if_neg c26] at H
              have c26b0 : (t431 == t438) = false := beq_eq_false_iff_ne.mpr c26
              have c26b1 : (t431 != t438) = true := bne_iff_ne.mpr c26
              have H' := Aside0.mk H
              clear H
              go_wp2_with (first | (go_at_call 28; (with_reducible refine (impl_Digits.calls k t423 t436 _ A19.out).mono ?_); rintro e w' ⟨rfl, ⟨nd, rfl⟩⟩; (try first | exact ⟨rfl, _, World.drewN_drewN _ _ _⟩ | exact ⟨rfl, _, Eq.trans (World.drewN_drewN _ _ _) (congrArg (World.drewN _) (Nat.add_assoc _ _ _))⟩)) | (go_at_call 27; (with_reducible refine (spec_Digits.calls k t423 t437 _ A20.out).mono ?_); rintro e w34 ⟨rfl, hb⟩; have n0_ := Aside0.mk (below_step (by repeat (first | (with_reducible first | exact HB.out | apply below_alloc | apply pw_below_drewN | apply below_drew1) | exact HB.out)) hb); clear HB; have HB := n0_; clear n0_; (try clear hb); (try clear hb2); (try clear hk); (try clear hi)) | (go_at_call 57; (with_reducible refine (spec_CeilDiv.calls t429 t430 t438 _ A25.out).mono ?_); rintro e w' ⟨rfl, ⟨nd, rfl⟩⟩; (try first | exact ⟨rfl, _, World.drewN_drewN _ _ _⟩ | exact ⟨rfl, _, Eq.trans (World.drewN_drewN _ _ _) (congrArg (World.drewN _) (Nat.add_assoc _ _ _))⟩)))
              repeat (go_quiet (first | (go_at_call 28; (with_reducible refine (impl_Digits.calls k t423 t436 _ A19.out).mono ?_); rintro e w' ⟨rfl, ⟨nd, rfl⟩⟩; (try first | exact ⟨rfl, _, World.drewN_drewN _ _ _⟩ | exact ⟨rfl, _, Eq.trans (World.drewN_drewN _ _ _) (congrArg (World.drewN _) (Nat.add_assoc _ _ _))⟩)) | (go_at_call 27; (with_reducible refine (spec_Digits.calls k t423 t437 _ A20.out).mono ?_); rintro e w34 ⟨rfl, hb⟩; have n0_ := Aside0.mk (below_step (by repeat (first | (with_reducible first | exact HB.out | apply below_alloc | apply pw_below_drewN | apply below_drew1) | exact HB.out)) hb); clear HB; have HB := n0_; clear n0_; (try clear hb); (try clear hb2); (try clear hk); (try clear hi)) | (go_at_call 57; (with_reducible refine (spec_CeilDiv.calls t429 t430 t438 _ A25.out).mono ?_); rintro e w' ⟨rfl, ⟨nd, rfl⟩⟩; (try first | exact ⟨rfl, _, World.drewN_drewN _ _ _⟩ | exact ⟨rfl, _, Eq.trans (World.drewN_drewN _ _ _) (congrArg (World.drewN _) (Nat.add_assoc _ _ _))⟩))); try go_wp2_with (first | (go_at_call 28; (with_reducible refine (impl_Digits.calls k t423 t436 _ A19.out).mono ?_); rintro e w' ⟨rfl, ⟨nd, rfl⟩⟩; (try first | exact ⟨rfl, _, World.drewN_drewN _ _ _⟩ | exact ⟨rfl, _, Eq.trans (World.drewN_drewN _ _ _) (congrArg (World.drewN _) (Nat.add_assoc _ _ _))⟩)) | (go_at_call 27; (with_reducible refine (spec_Digits.calls k t423 t437 _ A20.out).mono ?_); rintro e w34 ⟨rfl, hb⟩; have n0_ := Aside0.mk (below_step (by repeat (first | (with_reducible first | exact HB.out | apply below_alloc | apply pw_below_drewN | apply below_drew1) | exact HB.out)) hb); clear HB; have HB := n0_; clear n0_; (try clear hb); (try clear hb2); (try clear hk); (try clear hi)) | (go_at_call 57; (with_reducible refine (spec_CeilDiv.calls t429 t430 t438 _ A25.out).mono ?_); rintro e w' ⟨rfl, ⟨nd, rfl⟩⟩; (try first | exact ⟨rfl, _, World.drewN_drewN _ _ _⟩ | exact ⟨rfl, _, Eq.trans (World.drewN_drewN _ _ _) (congrArg (World.drewN _) (Nat.add_assoc _ _ _))⟩))))
              go_meet
              case rel => exact ⟨_, (true), (by first | rfl | (simp; done) | (simp [*]; done)), H', ⟨by first | omega | exact Nat.le_refl _⟩, ⟨by repeat (first | (with_reducible first | exact HB.out | apply below_alloc | apply pw_below_drewN | apply below_drew1) | exact HB.out)⟩⟩
        · rw [if_neg c22] at H
          have c22b0 : (t425 == t427) = false := beq_eq_false_iff_ne.mpr c22
          have c22b1 : (t425 != t427) = true := bne_iff_ne.mpr c22
          have H' := Aside0.mk H
          clear H
          go_wp2_with (first | (go_at_call 28; (with_reducible refine (impl_Digits.calls k t423 t436 _ A19.out).mono ?_); rintro e w' ⟨rfl, ⟨nd, rfl⟩⟩; (try first | exact ⟨rfl, _, World.drewN_drewN _ _ _⟩ | exact ⟨rfl, _, Eq.trans (World.drewN_drewN _ _ _) (congrArg (World.drewN _) (Nat.add_assoc _ _ _))⟩)) | (go_at_call 27; (with_reducible refine (spec_Digits.calls k t423 t437 _ A20.out).mono ?_); rintro e w35 ⟨rfl, hb⟩; have n0_ := Aside0.mk (below_step (by repeat (first | (with_reducible first | exact HB.out | apply below_alloc | apply pw_below_drewN | apply below_drew1) | exact HB.out)) hb); clear HB; have HB := n0_; clear n0_; (try clear hb); (try clear hb2); (try clear hk); (try clear hi)))
          repeat (go_quiet (first | (go_at_call 28; (with_reducible refine (impl_Digits.calls k t423 t436 _ A19.out).mono ?_); rintro e w' ⟨rfl, ⟨nd, rfl⟩⟩; (try first | exact ⟨rfl, _, World.drewN_drewN _ _ _⟩ | exact ⟨rfl, _, Eq.trans (World.drewN_drewN _ _ _) (congrArg (World.drewN _) (Nat.add_assoc _ _ _))⟩)) | (go_at_call 27; (with_reducible refine (spec_Digits.calls k t423 t437 _ A20.out).mono ?_); rintro e w35 ⟨rfl, hb⟩; have n0_ := Aside0.mk (below_step (by repeat (first | (with_reducible first | exact HB.out | apply below_alloc | apply pw_below_drewN | apply below_drew1) | exact HB.out)) hb); clear HB; have HB := n0_; clear n0_; (try clear hb); (try clear hb2); (try clear hk); (try clear hi))); try go_wp2_with (first | (go_at_call 28; (with_reducible refine (impl_Digits.calls k t423 t436 _ A19.out).mono ?_); rintro e w' ⟨rfl, ⟨nd, rfl⟩⟩; (try first | exact ⟨rfl, _, World.drewN_drewN _ _ _⟩ | exact ⟨rfl, _, Eq.trans (World.drewN_drewN _ _ _) (congrArg (World.drewN _) (Nat.add_assoc _ _ _))⟩)) | (go_at_call 27; (with_reducible refine (spec_Digits.calls k t423 t437 _ A20.out).mono ?_); rintro e w35 ⟨rfl, hb⟩; have n0_ := Aside0.mk (below_step (by repeat (first | (with_reducible first | exact HB.out | apply below_alloc | apply pw_below_drewN | apply below_drew1) | exact HB.out)) hb); clear HB; have HB := n0_; clear n0_; (try clear hb); (try clear hb2); (try clear hk); (try clear hi))))
          go_meet
          case rel => exact ⟨_, (true), (by first | rfl | (simp; done) | (simp [*]; done)), H', ⟨by first | omega | exact Nat.le_refl _⟩, ⟨by repeat (first | (with_reducible first | exact HB.out | apply below_alloc | apply pw_below_drewN | apply below_drew1) | exact HB.out)⟩⟩
      · rw [if_neg c21] at H
        have c21b0 : (t436.toList == t437.toList) = false := beq_eq_false_iff_ne.mpr c21
        have c21b1 : (t436.toList != t437.toList) = true := bne_iff_ne.mpr c21
        (first | rw [c21b0] | rw [c21b1] | (simp only [i64_w, i32_w]; rw [c21b0]) | skip)
        have H' := Aside0.mk H
        clear H
        go_wp2_with (first | (go_at_call 28; (with_reducible refine (impl_Digits.calls k t423 t436 _ A19.out).mono ?_); rintro e w' ⟨rfl, ⟨nd, rfl⟩⟩; (try first | exact ⟨rfl, _, World.drewN_drewN _ _ _⟩ | exact ⟨rfl, _, Eq.trans (World.drewN_drewN _ _ _) (congrArg (World.drewN _) (Nat.add_assoc _ _ _))⟩)) | (go_at_call 27; (with_reducible refine (spec_Digits.calls k t423 t437 _ A20.out).mono ?_); rintro e w36 ⟨rfl, hb⟩; have n0_ := Aside0.mk (below_step (by repeat (first | (with_reducible first | exact HB.out | apply below_alloc | apply pw_below_drewN | apply below_drew1) | exact HB.out)) hb); clear HB; have HB := n0_; clear n0_; (try clear hb); (try clear hb2); (try clear hk); (try clear hi)))
        repeat (go_quiet (first | (go_at_call 28; (with_reducible refine (impl_Digits.calls k t423 t436 _ A19.out).mono ?_); rintro e w' ⟨rfl, ⟨nd, rfl⟩⟩; (try first | exact ⟨rfl, _, World.drewN_drewN _ _ _⟩ | exact ⟨rfl, _, Eq.trans (World.drewN_drewN _ _ _) (congrArg (World.drewN _) (Nat.add_assoc _ _ _))⟩)) | (go_at_call 27; (with_reducible refine (spec_Digits.calls k t423 t437 _ A20.out).mono ?_); rintro e w36 ⟨rfl, hb⟩; have n0_ := Aside0.mk (below_step (by repeat (first | (with_reducible first | exact HB.out | apply below_alloc | apply pw_below_drewN | apply below_drew1) | exact HB.out)) hb); clear HB; have HB := n0_; clear n0_; (try clear hb); (try clear hb2); (try clear hk); (try clear hi))); try go_wp2_with (first | (go_at_call 28; (with_reducible refine (impl_Digits.calls k t423 t436 _ A19.out).mono ?_); rintro e w' ⟨rfl, ⟨nd, rfl⟩⟩; (try first | exact ⟨rfl, _, World.drewN_drewN _ _ _⟩ | exact ⟨rfl, _, Eq.trans (World.drewN_drewN _ _ _) (congrArg (World.drewN _) (Nat.add_assoc _ _ _))⟩)) | (go_at_call 27; (with_reducible refine (spec_Digits.calls k t423 t437 _ A20.out).mono ?_); rintro e w36 ⟨rfl, hb⟩; have n0_ := Aside0.mk (below_step (by repeat (first | (with_reducible first | exact HB.out | apply below_alloc | apply pw_below_drewN | apply below_drew1) | exact HB.out)) hb); clear HB; have HB := n0_; clear n0_; (try clear hb); (try clear hb2); (try clear hk); (try clear hi))))
        go_meet
        case rel => exact ⟨_, (true), (by first | rfl | (simp; done) | (simp [*]; done)), H', ⟨by first | omega | exact Nat.le_refl _⟩, ⟨by repeat (first | (with_reducible first | exact HB.out | apply below_alloc | apply pw_below_drewN | apply below_drew1) | exact HB.out)⟩⟩
    case rest =>
      clear HC13
      try clear c1
      try clear c2
      try clear p2
      try clear c4
      try clear c15
      try clear c21
      try clear c21b0
      try clear c21b1
      try clear c22
      try clear c22b0
      try clear c22b1
      try clear c23
      try clear c23b0
      try clear c23b1
      try clear c23b2
      try clear c26
      try clear c26b0
      try clear c26b1
      try clear c28
      try clear c28b0
      try clear c28b1
      try clear c29
      obtain ⟨kq, x88_12, rfl, HA, HJ12, HB⟩ := hcut
      cases kq with
      | zero => exact absurd HA.out (by simp [laws_FnNumbers.j0])
      | succ kj12 =>
        have H := HA.out
        clear HA
        simp only [laws_FnNumbers.j0] at H
        by_cases c37 : x88_12 = true
        · subst c37
          have H1 : (some false) = some r := by rw [if_pos rfl] at H; exact H
          clear H
          have H := H1
          clear H1
          obtain rfl := Option.some.inj H
          go_wp2
          repeat (go_quiet (fail); try go_wp2)
          go_ret
          exact ⟨by first | rfl | (simp [errW_none, errW_some] <;> rfl) | (simp [*, errW_none, errW_some] <;> rfl), by repeat (first | (with_reducible first | exact HB.out | apply below_alloc | apply pw_below_drewN | apply below_drew1) | exact HB.out)⟩
        · replace c37 := Bool.eq_false_iff.mpr c37
          subst c37
          have H1 : (if t433 ≤ t434 then (if t435 < t433 then (laws_FnNumbers.j1 kj12 t429 t430 t431 true) else (laws_FnNumbers.j1 kj12 t429 t430 t431 (decide (t435 > t434)))) else (laws_FnNumbers.j1 kj12 t429 t430 t431 false)) = some r := by rw [if_neg (show ¬ (false = true) by decide)] at H; exact H
          clear H
          have H := H1
          clear H1
          have HC38 := Aside0.mk H
          clear H
          go_upto_region 13 with (fail)
          repeat (go_quiet (fail); go_upto_region 13 with (fail))
          go_cut [101] (fun v101 wc => ∃ (kq : Nat) (x101_37 : Bool), v101 = .bool x101_37 ∧ Aside0 (laws_FnNumbers.j1 kq t429 t430 t431 x101_37 = some r) ∧ Aside0 (kq ≤ kj12) ∧ Aside0 (Below w.heap.size w wc))
          case first =>
            have H := HC38.out
            clear HC38
            by_cases c39 : t433 ≤ t434
            · rw [if_pos c39] at H
              have c39b0 : decide (t433 ≤ t434) = true := decide_eq_true c39
              clear c39
              (first | rw [c39b0] | (simp only [i64_w, i32_w]; rw [c39b0]) | skip)
              by_cases c40 : t435 < t433
              · rw [if_pos c40] at H
                have c40b0 : decide (t435 < t433) = true := decide_eq_true c40
                clear c40
                have H' := Aside0.mk H
                clear H
                go_wp2
                repeat (go_quiet (fail); try go_wp2)
                go_meet
                case rel => exact ⟨_, (true), (by first | rfl | (simp; done) | (simp [*]; done)), H', ⟨by have := HJ12.out; first | omega | exact Nat.le_refl _⟩, ⟨by repeat (first | (with_reducible first | exact HB.out | apply below_alloc | apply pw_below_drewN | apply below_drew1) | exact HB.out)⟩⟩
              · rw [if_neg c40] at H
                have c40b0 : decide (t435 < t433) = false := decide_eq_false c40
                clear c40
                have H' := Aside0.mk H
                clear H
                go_wp2
                repeat (go_quiet (fail); try go_wp2)
                go_meet
                case rel => exact ⟨_, (decide (t435 > t434)), (by first | rfl | (simp; done) | (simp [*]; done)), H', ⟨by have := HJ12.out; first | omega | exact Nat.le_refl _⟩, ⟨by repeat (first | (with_reducible first | exact HB.out | apply below_alloc | apply pw_below_drewN | apply below_drew1) | exact HB.out)⟩⟩
            · rw [if_neg c39] at H
              have c39b0 : decide (t433 ≤ t434) = false := decide_eq_false c39
              clear c39
              (first | rw [c39b0] | (simp only [i64_w, i32_w]; rw [c39b0]) | skip)
              have H' := Aside0.mk H
              clear H
              go_wp2
              repeat (go_quiet (fail); try go_wp2)
              go_meet
              case rel => exact ⟨_, (false), (by first | rfl | (simp; done) | (simp [*]; done)), H', ⟨by have := HJ12.out; first | omega | exact Nat.le_refl _⟩, ⟨by repeat (first | (with_reducible first | exact HB.out | apply below_alloc | apply pw_below_drewN | apply below_drew1) | exact HB.out)⟩⟩
          case rest =>
            clear HC38
            try clear c1
            try clear c2
            try clear p2
            try clear c3
            try clear c4
            try clear c15
            try clear c21
            try clear c21b0
            try clear c21b1
            try clear c22
            try clear c22b0
            try clear c22b1
            try clear c23
            try clear c23b0
            try clear c23b1
            try clear c23b2
            try clear c26
            try clear c26b0
            try clear c26b1
            try clear c28
            try clear c28b0
            try clear c28b1
            try clear c29
            try clear c37
            try clear c39
            try clear c39b0
            try clear c40
            try clear c40b0
            try clear p2
            obtain ⟨kq, x101_37, rfl, HA, HJ37, HB⟩ := hcut
            cases kq with
            | zero => exact absurd HA.out (by simp [laws_FnNumbers.j1])
            | succ kj37 =>
              have H := HA.out
              clear HA
              simp only [laws_FnNumbers.j1] at H
              by_cases c41 : x101_37 = true
              · subst c41
                have H1 : (some false) = some r := by rw [if_pos rfl] at H; exact H
                clear H
                have H := H1
                clear H1
                obtain rfl := Option.some.inj H
                go_wp2
                repeat (go_quiet (fail); try go_wp2)
                go_ret
                exact ⟨by first | rfl | (simp [errW_none, errW_some] <;> rfl) | (simp [*, errW_none, errW_some] <;> rfl), by repeat (first | (with_reducible first | exact HB.out | apply below_alloc | apply pw_below_drewN | apply below_drew1) | exact HB.out)⟩
              · replace c41 := Bool.eq_false_iff.mpr c41
                subst c41
                have H1 : (if t429 < 0 then (some (t431 == 0)) else (if t429 > 1000000000000 then (some (t431 == 0)) else (if t430 < 1 then (some (t431 == 0)) else (if t430 > 1000000000000 then (some (t431 == 0)) else (if t430 = 0 then (none) else (if t431 ≥ (wrap64 (Int.tdiv t429 t430)) then (if t431 ≤ (wrap64 ((wrap64 (Int.tdiv t429 t430)) + 1)) then (some (((wrap64 (t431 - (wrap64 (Int.tdiv t429 t430)))) == 0) == ((Int.tmod t429 t430) == 0))) else (some false)) else (some false))))))) = some r := by rw [if_neg (show ¬ (false = true) by decide)] at H; exact H
                clear H
                have H := H1
                clear H1
                by_cases c42 : t429 < 0
                · rw [if_pos c42] at H
                  have c42b0 : decide (t429 < 0) = true := decide_eq_true c42
                  clear c42
                  obtain rfl := Option.some.inj H
                  go_wp2
                  repeat (go_quiet (fail); try go_wp2)
                  go_ret
                  exact ⟨by first | rfl | (simp [errW_none, errW_some] <;> rfl) | (simp [*, errW_none, errW_some] <;> rfl), by repeat (first | (with_reducible first | exact HB.out | apply below_alloc | apply pw_below_drewN | apply below_drew1) | exact HB.out)⟩
                · rw [if_neg c42] at H
                  have c42b0 : decide (t429 < 0) = false := decide_eq_false c42
                  clear c42
                  by_cases c43 : t429 > 1000000000000
                  · rw [if_pos c43] at H
                    have c43b0 : decide (1000000000000 < t429) = true := decide_eq_true c43
                    clear c43
                    obtain rfl := Option.some.inj H
                    go_wp2
                    repeat (go_quiet (fail); try go_wp2)
                    go_ret
                    exact ⟨by first | rfl | (simp [errW_none, errW_some] <;> rfl) | (simp [*, errW_none, errW_some] <;> rfl), by repeat (first | (with_reducible first | exact HB.out | apply below_alloc | apply pw_below_drewN | apply below_drew1) | exact HB.out)⟩
                  · rw [if_neg c43] at H
                    have c43b0 : decide (1000000000000 < t429) = false := decide_eq_false c43
                    clear c43
                    by_cases c44 : t430 < 1
                    · rw [if_pos c44] at H
                      have c44b0 : decide (t430 < 1) = true := decide_eq_true c44
                      clear c44
                      obtain rfl := Option.some.inj H
                      go_wp2
                      repeat (go_quiet (fail); try go_wp2)
                      go_ret
                      exact ⟨by first | rfl | (simp [errW_none, errW_some] <;> rfl) | (simp [*, errW_none, errW_some] <;> rfl), by repeat (first | (with_reducible first | exact HB.out | apply below_alloc | apply pw_below_drewN | apply below_drew1) | exact HB.out)⟩
                    · rw [if_neg c44] at H
                      have c44b0 : decide (t430 < 1) = false := decide_eq_false c44
                      clear c44
                      by_cases c45 : t430 > 1000000000000
                      · rw [if_pos c45] at H
                        have c45b0 : decide (1000000000000 < t430) = true := decide_eq_true c45
                        clear c45
                        obtain rfl := Option.some.inj H
                        go_wp2
                        repeat (go_quiet (fail); try go_wp2)
                        go_ret
                        exact ⟨by first | rfl | (simp [errW_none, errW_some] <;> rfl) | (simp [*, errW_none, errW_some] <;> rfl), by repeat (first | (with_reducible first | exact HB.out | apply below_alloc | apply pw_below_drewN | apply below_drew1) | exact HB.out)⟩
                      · rw [if_neg c45] at H
                        have c45b0 : decide (1000000000000 < t430) = false := decide_eq_false c45
                        clear c45
                        by_cases c46 : t430 = 0
                        · rw [if_pos c46] at H
                          exact absurd H (by simp)
                        · rw [if_neg c46] at H
                          have c46b0 : (t430 == 0) = false := beq_eq_false_iff_ne.mpr c46
                          have c46b1 : (t430 != 0) = true := bne_iff_ne.mpr c46
                          by_cases c47 : t431 ≥ (wrap64 (Int.tdiv t429 t430))
                          · rw [if_pos c47] at H
                            have c47b0 : decide ((wrap64 (Int.tdiv t429 t430)) ≤ t431) = true := decide_eq_true c47
                            clear c47
                            by_cases c48 : t431 ≤ (wrap64 ((wrap64 (Int.tdiv t429 t430)) + 1))
                            · rw [if_pos c48] at H
                              have c48b0 : decide (t431 ≤ (wrap64 ((wrap64 (Int.tdiv t429 t430)) + 1))) = true := decide_eq_true c48
                              clear c48
                              obtain rfl := Option.some.inj H
                              go_wp2
                              repeat (go_quiet (fail); try go_wp2)
                              go_ret
                              exact ⟨by first | rfl | (simp [errW_none, errW_some] <;> rfl) | (simp [*, errW_none, errW_some] <;> rfl), by repeat (first | (with_reducible first | exact HB.out | apply below_alloc | apply pw_below_drewN | apply below_drew1) | exact HB.out)⟩
                            · rw [if_neg c48] at H
                              have c48b0 : decide (t431 ≤ (wrap64 ((wrap64 (Int.tdiv t429 t430)) + 1))) = false := decide_eq_false c48
                              clear c48
                              obtain rfl := Option.some.inj H
                              go_wp2
                              repeat (go_quiet (fail); try go_wp2)
                              go_ret
                              exact ⟨by first | rfl | (simp [errW_none, errW_some] <;> rfl) | (simp [*, errW_none, errW_some] <;> rfl), by repeat (first | (with_reducible first | exact HB.out | apply below_alloc | apply pw_below_drewN | apply below_drew1) | exact HB.out)⟩
                          · rw [if_neg c47] at H
                            have c47b0 : decide ((wrap64 (Int.tdiv t429 t430)) ≤ t431) = false := decide_eq_false c47
                            clear c47
                            obtain rfl := Option.some.inj H
                            go_wp2
                            repeat (go_quiet (fail); try go_wp2)
                            go_ret
                            exact ⟨by first | rfl | (simp [errW_none, errW_some] <;> rfl) | (simp [*, errW_none, errW_some] <;> rfl), by repeat (first | (with_reducible first | exact HB.out | apply below_alloc | apply pw_below_drewN | apply below_drew1) | exact HB.out)⟩

end Go.Proofs.Ytjkanclhlnojhaa.P
