-- Made by drive.py (a program of this session) over the kit's print; not written line by line by a hand.
import Derived.Test.YtjkanclhlnojhaaP0
import Derived.Test.YtjkanclhlnojhaaP_laws_big
import Derived.Test.YtjkanclhlnojhaaP_spec_AmountOf
import Derived.Test.YtjkanclhlnojhaaP_spec_AmountText
import Derived.Test.YtjkanclhlnojhaaP_spec_DrawAmountText
import Derived.Test.YtjkanclhlnojhaaP_spec_SpanOf
import Derived.Test.YtjkanclhlnojhaaP_spec_SpanText
namespace Go.Proofs.Ytjkanclhlnojhaa.P
open Go.RowKit Go.Proofs.YtjkanclhlnojhaaW.PrintWords Go.Proofs.YtjkanclhlnojhaaW.PrintLast Go.Proofs.YtjkanclhlnojhaaW.PrintMore
attribute [local go_sem] max2_int min2_int max_two min_two max_three min_three max_four min_four   -- for this text's walks alone
set_option linter.unusedVariables false
set_option linter.unusedSimpArgs false

/-! ### laws_FnAmounts: function 17 -/
mutual
def laws_FnAmounts.j0 : Nat → Int → Int → Int → Bool → Int → Bool → Bool → Option (Bool)
  | 0, _, _, _, _, _, _, _ => none
  | k + 1, x3, x5, x7, x8, x11, x12, x82 => if x82 = true then (some false) else (if x3 ≥ 0 then (laws_FnAmounts.j1 k x3 x5 x7 x8 x11 x12 (decide (x3 ≤ 1000000000000))) else (laws_FnAmounts.j1 k x3 x5 x7 x8 x11 x12 false))
def laws_FnAmounts.j1 : Nat → Int → Int → Int → Bool → Int → Bool → Bool → Option (Bool)
  | 0, _, _, _, _, _, _, _ => none
  | k + 1, x3, x5, x7, x8, x11, x12, x88 => if x88 = true then ((impl_AmountText.f k x3).bind fun t647 => ((impl_AmountOf.f k t647).bind fun bt648 => (if bt648.2 = true then (if bt648.1 = x3 then (laws_FnAmounts.j2 k x5 x7 x8 x11 x12) else (some false)) else (some false)))) else (laws_FnAmounts.j2 k x5 x7 x8 x11 x12)
def laws_FnAmounts.j2 : Nat → Int → Int → Bool → Int → Bool → Option (Bool)
  | 0, _, _, _, _, _ => none
  | k + 1, x5, x7, x8, x11, x12 => if x5 ≥ 0 then (laws_FnAmounts.j3 k x5 x7 x8 x11 x12 (decide (x5 ≤ 1000000))) else (laws_FnAmounts.j3 k x5 x7 x8 x11 x12 false)
def laws_FnAmounts.j3 : Nat → Int → Int → Bool → Int → Bool → Bool → Option (Bool)
  | 0, _, _, _, _, _, _ => none
  | k + 1, x5, x7, x8, x11, x12, x107 => if x107 = true then ((impl_SpanText.f k x5).bind fun t650 => ((impl_SpanOf.f k t650).bind fun bt651 => (if bt651.2 = true then (if bt651.1 = x5 then (laws_FnAmounts.j4 k x7 x8 x11 x12) else (some false)) else (some false)))) else (laws_FnAmounts.j4 k x7 x8 x11 x12)
def laws_FnAmounts.j4 : Nat → Int → Bool → Int → Bool → Option (Bool)
  | 0, _, _, _, _ => none
  | k + 1, x7, x8, x11, x12 => if x8 = true then ((impl_AmountText.f k x7).bind fun t653 => ((impl_AmountOf.f k t653).bind fun bt654 => (if bt654.2 = true then (some (bt654.1 == x7)) else (some false)))) else (if x7 = 0 then (if x12 = true then (some true) else (some (x11 == 0))) else (some false))
end
def laws_FnAmounts.f (k : Nat) (l0 : List Int) : Option (Bool) := (laws_big.f l0).bind fun t630 => (if t630 = true then (some true) else ((spec_DrawAmountText.f k l0).bind fun t631 => ((spec_DrawAmountOf.f k l0).bind fun t632 => ((spec_DrawSpanText.f k l0).bind fun t633 => ((spec_DrawSpanOf.f k l0).bind fun t634 => ((impl_AmountOf.f k t632).bind fun bt635 => ((spec_AmountOf.f k t632).bind fun bt637 => ((impl_SpanOf.f k t634).bind fun bt639 => ((spec_SpanOf.f k t634).bind fun bt641 => ((impl_AmountText.f k t631).bind fun t643 => ((spec_AmountText.f k t631).bind fun t644 => (if t643.toList = t644.toList then ((impl_SpanText.f k t633).bind fun t645 => ((spec_SpanText.f k t633).bind fun t646 => (if t645.toList = t646.toList then (if bt635.1 = bt637.1 then (if (bt635.2 != bt637.2) = true then (laws_FnAmounts.j0 k t631 t633 bt635.1 bt635.2 bt639.1 bt639.2 true) else (if bt639.1 = bt641.1 then (laws_FnAmounts.j0 k t631 t633 bt635.1 bt635.2 bt639.1 bt639.2 (bt639.2 != bt641.2)) else (laws_FnAmounts.j0 k t631 t633 bt635.1 bt635.2 bt639.1 bt639.2 true))) else (laws_FnAmounts.j0 k t631 t633 bt635.1 bt635.2 bt639.1 bt639.2 true)) else (laws_FnAmounts.j0 k t631 t633 bt635.1 bt635.2 bt639.1 bt639.2 true)))) else (laws_FnAmounts.j0 k t631 t633 bt635.1 bt635.2 bt639.1 bt639.2 true)))))))))))))
theorem laws_FnAmounts.mono_l : ∀ k, (∀ y0 y1 y2 y3 y4 y5 y6, LeO (laws_FnAmounts.j0 k y0 y1 y2 y3 y4 y5 y6) (laws_FnAmounts.j0 (k + 1) y0 y1 y2 y3 y4 y5 y6)) ∧ (∀ y0 y1 y2 y3 y4 y5 y6, LeO (laws_FnAmounts.j1 k y0 y1 y2 y3 y4 y5 y6) (laws_FnAmounts.j1 (k + 1) y0 y1 y2 y3 y4 y5 y6)) ∧ (∀ y0 y1 y2 y3 y4, LeO (laws_FnAmounts.j2 k y0 y1 y2 y3 y4) (laws_FnAmounts.j2 (k + 1) y0 y1 y2 y3 y4)) ∧ (∀ y0 y1 y2 y3 y4 y5, LeO (laws_FnAmounts.j3 k y0 y1 y2 y3 y4 y5) (laws_FnAmounts.j3 (k + 1) y0 y1 y2 y3 y4 y5)) ∧ (∀ y0 y1 y2 y3, LeO (laws_FnAmounts.j4 k y0 y1 y2 y3) (laws_FnAmounts.j4 (k + 1) y0 y1 y2 y3))
  | 0 => ⟨fun _ _ _ _ _ _ _ r h => by simp [laws_FnAmounts.j0] at h, fun _ _ _ _ _ _ _ r h => by simp [laws_FnAmounts.j1] at h, fun _ _ _ _ _ r h => by simp [laws_FnAmounts.j2] at h, fun _ _ _ _ _ _ r h => by simp [laws_FnAmounts.j3] at h, fun _ _ _ _ r h => by simp [laws_FnAmounts.j4] at h⟩
  | k + 1 => by
    obtain ⟨ih0, ih1, ih2, ih3, ih4⟩ := laws_FnAmounts.mono_l k
    refine ⟨?_, ?_, ?_, ?_, ?_⟩
    · intro y0 y1 y2 y3 y4 y5 y6
      unfold laws_FnAmounts.j0
      repeat' first
      | (with_reducible exact ih0 _ _ _ _ _ _ _)
      | (with_reducible exact ih1 _ _ _ _ _ _ _)
      | (with_reducible exact ih2 _ _ _ _ _)
      | (with_reducible exact ih3 _ _ _ _ _ _)
      | (with_reducible exact ih4 _ _ _ _)
      | (with_reducible exact impl_AmountOf.mono _ _)
      | (with_reducible exact impl_AmountText.mono _ _)
      | (with_reducible exact impl_SpanOf.mono _ _)
      | (with_reducible exact impl_SpanText.mono _ _)
      | (with_reducible exact spec_AmountOf.mono _ _)
      | (with_reducible exact spec_AmountText.mono _ _)
      | (with_reducible exact spec_DrawAmountOf.mono _ _)
      | (with_reducible exact spec_DrawAmountText.mono _ _)
      | (with_reducible exact spec_DrawSpanOf.mono _ _)
      | (with_reducible exact spec_DrawSpanText.mono _ _)
      | (with_reducible exact spec_SpanOf.mono _ _)
      | (with_reducible exact spec_SpanText.mono _ _)
      | (with_reducible exact LeO.refl _)
      | (with_reducible exact LeO.none _)
      | (with_reducible refine LeO.ite ?_ ?_)
      | (with_reducible refine LeO.bind ?_ (fun _ => ?_))
      | exact ih0 _ _ _ _ _ _ _
      | exact ih1 _ _ _ _ _ _ _
      | exact ih2 _ _ _ _ _
      | exact ih3 _ _ _ _ _ _
      | exact ih4 _ _ _ _
      | exact impl_AmountOf.mono _ _
      | exact impl_AmountText.mono _ _
      | exact impl_SpanOf.mono _ _
      | exact impl_SpanText.mono _ _
      | exact spec_AmountOf.mono _ _
      | exact spec_AmountText.mono _ _
      | exact spec_DrawAmountOf.mono _ _
      | exact spec_DrawAmountText.mono _ _
      | exact spec_DrawSpanOf.mono _ _
      | exact spec_DrawSpanText.mono _ _
      | exact spec_SpanOf.mono _ _
      | exact spec_SpanText.mono _ _
      | exact LeO.none _
      | refine LeO.ite ?_ ?_
      | refine LeO.bind ?_ (fun _ => ?_)
    · intro y0 y1 y2 y3 y4 y5 y6
      unfold laws_FnAmounts.j1
      repeat' first
      | (with_reducible exact ih0 _ _ _ _ _ _ _)
      | (with_reducible exact ih1 _ _ _ _ _ _ _)
      | (with_reducible exact ih2 _ _ _ _ _)
      | (with_reducible exact ih3 _ _ _ _ _ _)
      | (with_reducible exact ih4 _ _ _ _)
      | (with_reducible exact impl_AmountOf.mono _ _)
      | (with_reducible exact impl_AmountText.mono _ _)
      | (with_reducible exact impl_SpanOf.mono _ _)
      | (with_reducible exact impl_SpanText.mono _ _)
      | (with_reducible exact spec_AmountOf.mono _ _)
      | (with_reducible exact spec_AmountText.mono _ _)
      | (with_reducible exact spec_DrawAmountOf.mono _ _)
      | (with_reducible exact spec_DrawAmountText.mono _ _)
      | (with_reducible exact spec_DrawSpanOf.mono _ _)
      | (with_reducible exact spec_DrawSpanText.mono _ _)
      | (with_reducible exact spec_SpanOf.mono _ _)
      | (with_reducible exact spec_SpanText.mono _ _)
      | (with_reducible exact LeO.refl _)
      | (with_reducible exact LeO.none _)
      | (with_reducible refine LeO.ite ?_ ?_)
      | (with_reducible refine LeO.bind ?_ (fun _ => ?_))
      | exact ih0 _ _ _ _ _ _ _
      | exact ih1 _ _ _ _ _ _ _
      | exact ih2 _ _ _ _ _
      | exact ih3 _ _ _ _ _ _
      | exact ih4 _ _ _ _
      | exact impl_AmountOf.mono _ _
      | exact impl_AmountText.mono _ _
      | exact impl_SpanOf.mono _ _
      | exact impl_SpanText.mono _ _
      | exact spec_AmountOf.mono _ _
      | exact spec_AmountText.mono _ _
      | exact spec_DrawAmountOf.mono _ _
      | exact spec_DrawAmountText.mono _ _
      | exact spec_DrawSpanOf.mono _ _
      | exact spec_DrawSpanText.mono _ _
      | exact spec_SpanOf.mono _ _
      | exact spec_SpanText.mono _ _
      | exact LeO.none _
      | refine LeO.ite ?_ ?_
      | refine LeO.bind ?_ (fun _ => ?_)
    · intro y0 y1 y2 y3 y4
      unfold laws_FnAmounts.j2
      repeat' first
      | (with_reducible exact ih0 _ _ _ _ _ _ _)
      | (with_reducible exact ih1 _ _ _ _ _ _ _)
      | (with_reducible exact ih2 _ _ _ _ _)
      | (with_reducible exact ih3 _ _ _ _ _ _)
      | (with_reducible exact ih4 _ _ _ _)
      | (with_reducible exact impl_AmountOf.mono _ _)
      | (with_reducible exact impl_AmountText.mono _ _)
      | (with_reducible exact impl_SpanOf.mono _ _)
      | (with_reducible exact impl_SpanText.mono _ _)
      | (with_reducible exact spec_AmountOf.mono _ _)
      | (with_reducible exact spec_AmountText.mono _ _)
      | (with_reducible exact spec_DrawAmountOf.mono _ _)
      | (with_reducible exact spec_DrawAmountText.mono _ _)
      | (with_reducible exact spec_DrawSpanOf.mono _ _)
      | (with_reducible exact spec_DrawSpanText.mono _ _)
      | (with_reducible exact spec_SpanOf.mono _ _)
      | (with_reducible exact spec_SpanText.mono _ _)
      | (with_reducible exact LeO.refl _)
      | (with_reducible exact LeO.none _)
      | (with_reducible refine LeO.ite ?_ ?_)
      | (with_reducible refine LeO.bind ?_ (fun _ => ?_))
      | exact ih0 _ _ _ _ _ _ _
      | exact ih1 _ _ _ _ _ _ _
      | exact ih2 _ _ _ _ _
      | exact ih3 _ _ _ _ _ _
      | exact ih4 _ _ _ _
      | exact impl_AmountOf.mono _ _
      | exact impl_AmountText.mono _ _
      | exact impl_SpanOf.mono _ _
      | exact impl_SpanText.mono _ _
      | exact spec_AmountOf.mono _ _
      | exact spec_AmountText.mono _ _
      | exact spec_DrawAmountOf.mono _ _
      | exact spec_DrawAmountText.mono _ _
      | exact spec_DrawSpanOf.mono _ _
      | exact spec_DrawSpanText.mono _ _
      | exact spec_SpanOf.mono _ _
      | exact spec_SpanText.mono _ _
      | exact LeO.none _
      | refine LeO.ite ?_ ?_
      | refine LeO.bind ?_ (fun _ => ?_)
    · intro y0 y1 y2 y3 y4 y5
      unfold laws_FnAmounts.j3
      repeat' first
      | (with_reducible exact ih0 _ _ _ _ _ _ _)
      | (with_reducible exact ih1 _ _ _ _ _ _ _)
      | (with_reducible exact ih2 _ _ _ _ _)
      | (with_reducible exact ih3 _ _ _ _ _ _)
      | (with_reducible exact ih4 _ _ _ _)
      | (with_reducible exact impl_AmountOf.mono _ _)
      | (with_reducible exact impl_AmountText.mono _ _)
      | (with_reducible exact impl_SpanOf.mono _ _)
      | (with_reducible exact impl_SpanText.mono _ _)
      | (with_reducible exact spec_AmountOf.mono _ _)
      | (with_reducible exact spec_AmountText.mono _ _)
      | (with_reducible exact spec_DrawAmountOf.mono _ _)
      | (with_reducible exact spec_DrawAmountText.mono _ _)
      | (with_reducible exact spec_DrawSpanOf.mono _ _)
      | (with_reducible exact spec_DrawSpanText.mono _ _)
      | (with_reducible exact spec_SpanOf.mono _ _)
      | (with_reducible exact spec_SpanText.mono _ _)
      | (with_reducible exact LeO.refl _)
      | (with_reducible exact LeO.none _)
      | (with_reducible refine LeO.ite ?_ ?_)
      | (with_reducible refine LeO.bind ?_ (fun _ => ?_))
      | exact ih0 _ _ _ _ _ _ _
      | exact ih1 _ _ _ _ _ _ _
      | exact ih2 _ _ _ _ _
      | exact ih3 _ _ _ _ _ _
      | exact ih4 _ _ _ _
      | exact impl_AmountOf.mono _ _
      | exact impl_AmountText.mono _ _
      | exact impl_SpanOf.mono _ _
      | exact impl_SpanText.mono _ _
      | exact spec_AmountOf.mono _ _
      | exact spec_AmountText.mono _ _
      | exact spec_DrawAmountOf.mono _ _
      | exact spec_DrawAmountText.mono _ _
      | exact spec_DrawSpanOf.mono _ _
      | exact spec_DrawSpanText.mono _ _
      | exact spec_SpanOf.mono _ _
      | exact spec_SpanText.mono _ _
      | exact LeO.none _
      | refine LeO.ite ?_ ?_
      | refine LeO.bind ?_ (fun _ => ?_)
    · intro y0 y1 y2 y3
      unfold laws_FnAmounts.j4
      repeat' first
      | (with_reducible exact ih0 _ _ _ _ _ _ _)
      | (with_reducible exact ih1 _ _ _ _ _ _ _)
      | (with_reducible exact ih2 _ _ _ _ _)
      | (with_reducible exact ih3 _ _ _ _ _ _)
      | (with_reducible exact ih4 _ _ _ _)
      | (with_reducible exact impl_AmountOf.mono _ _)
      | (with_reducible exact impl_AmountText.mono _ _)
      | (with_reducible exact impl_SpanOf.mono _ _)
      | (with_reducible exact impl_SpanText.mono _ _)
      | (with_reducible exact spec_AmountOf.mono _ _)
      | (with_reducible exact spec_AmountText.mono _ _)
      | (with_reducible exact spec_DrawAmountOf.mono _ _)
      | (with_reducible exact spec_DrawAmountText.mono _ _)
      | (with_reducible exact spec_DrawSpanOf.mono _ _)
      | (with_reducible exact spec_DrawSpanText.mono _ _)
      | (with_reducible exact spec_SpanOf.mono _ _)
      | (with_reducible exact spec_SpanText.mono _ _)
      | (with_reducible exact LeO.refl _)
      | (with_reducible exact LeO.none _)
      | (with_reducible refine LeO.ite ?_ ?_)
      | (with_reducible refine LeO.bind ?_ (fun _ => ?_))
      | exact ih0 _ _ _ _ _ _ _
      | exact ih1 _ _ _ _ _ _ _
      | exact ih2 _ _ _ _ _
      | exact ih3 _ _ _ _ _ _
      | exact ih4 _ _ _ _
      | exact impl_AmountOf.mono _ _
      | exact impl_AmountText.mono _ _
      | exact impl_SpanOf.mono _ _
      | exact impl_SpanText.mono _ _
      | exact spec_AmountOf.mono _ _
      | exact spec_AmountText.mono _ _
      | exact spec_DrawAmountOf.mono _ _
      | exact spec_DrawAmountText.mono _ _
      | exact spec_DrawSpanOf.mono _ _
      | exact spec_DrawSpanText.mono _ _
      | exact spec_SpanOf.mono _ _
      | exact spec_SpanText.mono _ _
      | exact LeO.none _
      | refine LeO.ite ?_ ?_
      | refine LeO.bind ?_ (fun _ => ?_)
theorem laws_FnAmounts.mono : ∀ a0 k, LeO (laws_FnAmounts.f k a0) (laws_FnAmounts.f (k + 1) a0) := by
  intro a0 k
  obtain ⟨ih0, ih1, ih2, ih3, ih4⟩ := laws_FnAmounts.mono_l k
  unfold laws_FnAmounts.f
  repeat' first
      | (with_reducible exact ih0 _ _ _ _ _ _ _)
      | (with_reducible exact ih1 _ _ _ _ _ _ _)
      | (with_reducible exact ih2 _ _ _ _ _)
      | (with_reducible exact ih3 _ _ _ _ _ _)
      | (with_reducible exact ih4 _ _ _ _)
      | (with_reducible exact impl_AmountOf.mono _ _)
      | (with_reducible exact impl_AmountText.mono _ _)
      | (with_reducible exact impl_SpanOf.mono _ _)
      | (with_reducible exact impl_SpanText.mono _ _)
      | (with_reducible exact spec_AmountOf.mono _ _)
      | (with_reducible exact spec_AmountText.mono _ _)
      | (with_reducible exact spec_DrawAmountOf.mono _ _)
      | (with_reducible exact spec_DrawAmountText.mono _ _)
      | (with_reducible exact spec_DrawSpanOf.mono _ _)
      | (with_reducible exact spec_DrawSpanText.mono _ _)
      | (with_reducible exact spec_SpanOf.mono _ _)
      | (with_reducible exact spec_SpanText.mono _ _)
      | (with_reducible exact LeO.refl _)
      | (with_reducible exact LeO.none _)
      | (with_reducible refine LeO.ite ?_ ?_)
      | (with_reducible refine LeO.bind ?_ (fun _ => ?_))
      | exact ih0 _ _ _ _ _ _ _
      | exact ih1 _ _ _ _ _ _ _
      | exact ih2 _ _ _ _ _
      | exact ih3 _ _ _ _ _ _
      | exact ih4 _ _ _ _
      | exact impl_AmountOf.mono _ _
      | exact impl_AmountText.mono _ _
      | exact impl_SpanOf.mono _ _
      | exact impl_SpanText.mono _ _
      | exact spec_AmountOf.mono _ _
      | exact spec_AmountText.mono _ _
      | exact spec_DrawAmountOf.mono _ _
      | exact spec_DrawAmountText.mono _ _
      | exact spec_DrawSpanOf.mono _ _
      | exact spec_DrawSpanText.mono _ _
      | exact spec_SpanOf.mono _ _
      | exact spec_SpanText.mono _ _
      | exact LeO.none _
      | refine LeO.ite ?_ ?_
      | refine LeO.bind ?_ (fun _ => ?_)
set_option maxHeartbeats 8000000 in
set_option maxRecDepth 100000 in
theorem laws_FnAmounts.calls (k : Nat) (A0 : Option Addr) (c0 : Nat) (l0 : List Int) (r : Bool) (w : World) (hr0 : Kd.C (Kd.int .u8) w A0 l0.length l0) (hc0 : l0.length ≤ c0) (h : laws_FnAmounts.f k l0 = some r) :
    Calls Try.prog 17 #[.slice A0 l0.length c0] w fun e w' => e = .returned (.bool r) ∧ Below w.heap.size w w' := by
  have HR0 := Aside0.mk hr0
  have HC0 := Aside0.mk hc0
  clear hr0 hc0
  have HB := Aside0.mk (Below.refl w.heap.size w)
  have H : ((laws_big.f l0).bind fun t630 => (if t630 = true then (some true) else ((spec_DrawAmountText.f k l0).bind fun t631 => ((spec_DrawAmountOf.f k l0).bind fun t632 => ((spec_DrawSpanText.f k l0).bind fun t633 => ((spec_DrawSpanOf.f k l0).bind fun t634 => ((impl_AmountOf.f k t632).bind fun bt635 => ((spec_AmountOf.f k t632).bind fun bt637 => ((impl_SpanOf.f k t634).bind fun bt639 => ((spec_SpanOf.f k t634).bind fun bt641 => ((impl_AmountText.f k t631).bind fun t643 => ((spec_AmountText.f k t631).bind fun t644 => (if t643.toList = t644.toList then ((impl_SpanText.f k t633).bind fun t645 => ((spec_SpanText.f k t633).bind fun t646 => (if t645.toList = t646.toList then (if bt635.1 = bt637.1 then (if (bt635.2 != bt637.2) = true then (laws_FnAmounts.j0 k t631 t633 bt635.1 bt635.2 bt639.1 bt639.2 true) else (if bt639.1 = bt641.1 then (laws_FnAmounts.j0 k t631 t633 bt635.1 bt635.2 bt639.1 bt639.2 (bt639.2 != bt641.2)) else (laws_FnAmounts.j0 k t631 t633 bt635.1 bt635.2 bt639.1 bt639.2 true))) else (laws_FnAmounts.j0 k t631 t633 bt635.1 bt635.2 bt639.1 bt639.2 true)) else (laws_FnAmounts.j0 k t631 t633 bt635.1 bt635.2 bt639.1 bt639.2 true)))) else (laws_FnAmounts.j0 k t631 t633 bt635.1 bt635.2 bt639.1 bt639.2 true)))))))))))))) = some r := h
  clear h
  replace H := Option.bind_eq_some_iff.mp H
  obtain ⟨t630, A20, H⟩ := H
  replace H : (if t630 = true then (some true) else ((spec_DrawAmountText.f k l0).bind fun t631 => ((spec_DrawAmountOf.f k l0).bind fun t632 => ((spec_DrawSpanText.f k l0).bind fun t633 => ((spec_DrawSpanOf.f k l0).bind fun t634 => ((impl_AmountOf.f k t632).bind fun bt635 => ((spec_AmountOf.f k t632).bind fun bt637 => ((impl_SpanOf.f k t634).bind fun bt639 => ((spec_SpanOf.f k t634).bind fun bt641 => ((impl_AmountText.f k t631).bind fun t643 => ((spec_AmountText.f k t631).bind fun t644 => (if t643.toList = t644.toList then ((impl_SpanText.f k t633).bind fun t645 => ((spec_SpanText.f k t633).bind fun t646 => (if t645.toList = t646.toList then (if bt635.1 = bt637.1 then (if (bt635.2 != bt637.2) = true then (laws_FnAmounts.j0 k t631 t633 bt635.1 bt635.2 bt639.1 bt639.2 true) else (if bt639.1 = bt641.1 then (laws_FnAmounts.j0 k t631 t633 bt635.1 bt635.2 bt639.1 bt639.2 (bt639.2 != bt641.2)) else (laws_FnAmounts.j0 k t631 t633 bt635.1 bt635.2 bt639.1 bt639.2 true))) else (laws_FnAmounts.j0 k t631 t633 bt635.1 bt635.2 bt639.1 bt639.2 true)) else (laws_FnAmounts.j0 k t631 t633 bt635.1 bt635.2 bt639.1 bt639.2 true)))) else (laws_FnAmounts.j0 k t631 t633 bt635.1 bt635.2 bt639.1 bt639.2 true))))))))))))) = some r := H
  have A2 := Aside0.mk A20
  clear A20
  have HC3 := Aside0.mk H
  clear H
  go_enter Try.func17, Try.ntmps17
  go_upto_if 22 with (first | ((with_reducible refine gate_callee (f := 50) rfl ?_); refine goesL_ (some 22) rfl rfl Try.func50 (by kernel_rfl) rfl #[.slice A0 l0.length c0] rfl (by (try simp only [List.map_toArray, List.map_cons, List.map_nil]); first | done | rfl | (simp only [List.length_drop, List.length_take]; rfl)) ?_; (with_reducible refine (laws_big.calls _ _ l0 t630 _ ?side1 ?side2 A2.out).mono ?_); (case side1 => repeat (first | exact HR0.out | (with_reducible refine Kd.C_alloc ?_ _) | (with_reducible refine Kd.C_drewN ?_ _) | (with_reducible refine Kd.C_drew ?_))); (case side2 => exact HC0.out); rintro e w' ⟨rfl, ⟨nd, rfl⟩⟩; refine ⟨_, rfl, ?_⟩))
  (try simp only [Act.put, List.setIfInBounds_toArray, List.set_cons_zero, List.set_cons_succ])
  have H := HC3.out
  clear HC3
  by_cases c4 : t630 = true
  · subst c4
    have H1 : (some true) = some r := by rw [if_pos rfl] at H; exact H
    clear H
    have H := H1
    clear H1
    obtain rfl := Option.some.inj H
    go_wp2
    go_ret
    exact ⟨by first | rfl | (simp [errW_none, errW_some] <;> rfl) | (simp [*, errW_none, errW_some] <;> rfl), by repeat (first | (with_reducible first | exact HB.out | apply below_alloc | apply pw_below_drewN | apply below_drew1) | exact HB.out)⟩
  · replace c4 := Bool.eq_false_iff.mpr c4
    subst c4
    have H1 : ((spec_DrawAmountText.f k l0).bind fun t631 => ((spec_DrawAmountOf.f k l0).bind fun t632 => ((spec_DrawSpanText.f k l0).bind fun t633 => ((spec_DrawSpanOf.f k l0).bind fun t634 => ((impl_AmountOf.f k t632).bind fun bt635 => ((spec_AmountOf.f k t632).bind fun bt637 => ((impl_SpanOf.f k t634).bind fun bt639 => ((spec_SpanOf.f k t634).bind fun bt641 => ((impl_AmountText.f k t631).bind fun t643 => ((spec_AmountText.f k t631).bind fun t644 => (if t643.toList = t644.toList then ((impl_SpanText.f k t633).bind fun t645 => ((spec_SpanText.f k t633).bind fun t646 => (if t645.toList = t646.toList then (if bt635.1 = bt637.1 then (if (bt635.2 != bt637.2) = true then (laws_FnAmounts.j0 k t631 t633 bt635.1 bt635.2 bt639.1 bt639.2 true) else (if bt639.1 = bt641.1 then (laws_FnAmounts.j0 k t631 t633 bt635.1 bt635.2 bt639.1 bt639.2 (bt639.2 != bt641.2)) else (laws_FnAmounts.j0 k t631 t633 bt635.1 bt635.2 bt639.1 bt639.2 true))) else (laws_FnAmounts.j0 k t631 t633 bt635.1 bt635.2 bt639.1 bt639.2 true)) else (laws_FnAmounts.j0 k t631 t633 bt635.1 bt635.2 bt639.1 bt639.2 true)))) else (laws_FnAmounts.j0 k t631 t633 bt635.1 bt635.2 bt639.1 bt639.2 true)))))))))))) = some r := by rw [if_neg (show ¬ (false = true) by decide)] at H; exact H
    clear H
    have H := H1
    clear H1
    replace H := Option.bind_eq_some_iff.mp H
    obtain ⟨t631, A50, H⟩ := H
    replace H : ((spec_DrawAmountOf.f k l0).bind fun t632 => ((spec_DrawSpanText.f k l0).bind fun t633 => ((spec_DrawSpanOf.f k l0).bind fun t634 => ((impl_AmountOf.f k t632).bind fun bt635 => ((spec_AmountOf.f k t632).bind fun bt637 => ((impl_SpanOf.f k t634).bind fun bt639 => ((spec_SpanOf.f k t634).bind fun bt641 => ((impl_AmountText.f k t631).bind fun t643 => ((spec_AmountText.f k t631).bind fun t644 => (if t643.toList = t644.toList then ((impl_SpanText.f k t633).bind fun t645 => ((spec_SpanText.f k t633).bind fun t646 => (if t645.toList = t646.toList then (if bt635.1 = bt637.1 then (if (bt635.2 != bt637.2) = true then (laws_FnAmounts.j0 k t631 t633 bt635.1 bt635.2 bt639.1 bt639.2 true) else (if bt639.1 = bt641.1 then (laws_FnAmounts.j0 k t631 t633 bt635.1 bt635.2 bt639.1 bt639.2 (bt639.2 != bt641.2)) else (laws_FnAmounts.j0 k t631 t633 bt635.1 bt635.2 bt639.1 bt639.2 true))) else (laws_FnAmounts.j0 k t631 t633 bt635.1 bt635.2 bt639.1 bt639.2 true)) else (laws_FnAmounts.j0 k t631 t633 bt635.1 bt635.2 bt639.1 bt639.2 true)))) else (laws_FnAmounts.j0 k t631 t633 bt635.1 bt635.2 bt639.1 bt639.2 true))))))))))) = some r := H
    have A5 := Aside0.mk A50
    clear A50
    replace H := Option.bind_eq_some_iff.mp H
    obtain ⟨t632, A60, H⟩ := H
    replace H : ((spec_DrawSpanText.f k l0).bind fun t633 => ((spec_DrawSpanOf.f k l0).bind fun t634 => ((impl_AmountOf.f k t632).bind fun bt635 => ((spec_AmountOf.f k t632).bind fun bt637 => ((impl_SpanOf.f k t634).bind fun bt639 => ((spec_SpanOf.f k t634).bind fun bt641 => ((impl_AmountText.f k t631).bind fun t643 => ((spec_AmountText.f k t631).bind fun t644 => (if t643.toList = t644.toList then ((impl_SpanText.f k t633).bind fun t645 => ((spec_SpanText.f k t633).bind fun t646 => (if t645.toList = t646.toList then (if bt635.1 = bt637.1 then (if (bt635.2 != bt637.2) = true then (laws_FnAmounts.j0 k t631 t633 bt635.1 bt635.2 bt639.1 bt639.2 true) else (if bt639.1 = bt641.1 then (laws_FnAmounts.j0 k t631 t633 bt635.1 bt635.2 bt639.1 bt639.2 (bt639.2 != bt641.2)) else (laws_FnAmounts.j0 k t631 t633 bt635.1 bt635.2 bt639.1 bt639.2 true))) else (laws_FnAmounts.j0 k t631 t633 bt635.1 bt635.2 bt639.1 bt639.2 true)) else (laws_FnAmounts.j0 k t631 t633 bt635.1 bt635.2 bt639.1 bt639.2 true)))) else (laws_FnAmounts.j0 k t631 t633 bt635.1 bt635.2 bt639.1 bt639.2 true)))))))))) = some r := H
    have A6 := Aside0.mk A60
    clear A60
    replace H := Option.bind_eq_some_iff.mp H
    obtain ⟨t633, A70, H⟩ := H
    replace H : ((spec_DrawSpanOf.f k l0).bind fun t634 => ((impl_AmountOf.f k t632).bind fun bt635 => ((spec_AmountOf.f k t632).bind fun bt637 => ((impl_SpanOf.f k t634).bind fun bt639 => ((spec_SpanOf.f k t634).bind fun bt641 => ((impl_AmountText.f k t631).bind fun t643 => ((spec_AmountText.f k t631).bind fun t644 => (if t643.toList = t644.toList then ((impl_SpanText.f k t633).bind fun t645 => ((spec_SpanText.f k t633).bind fun t646 => (if t645.toList = t646.toList then (if bt635.1 = bt637.1 then (if (bt635.2 != bt637.2) = true then (laws_FnAmounts.j0 k t631 t633 bt635.1 bt635.2 bt639.1 bt639.2 true) else (if bt639.1 = bt641.1 then (laws_FnAmounts.j0 k t631 t633 bt635.1 bt635.2 bt639.1 bt639.2 (bt639.2 != bt641.2)) else (laws_FnAmounts.j0 k t631 t633 bt635.1 bt635.2 bt639.1 bt639.2 true))) else (laws_FnAmounts.j0 k t631 t633 bt635.1 bt635.2 bt639.1 bt639.2 true)) else (laws_FnAmounts.j0 k t631 t633 bt635.1 bt635.2 bt639.1 bt639.2 true)))) else (laws_FnAmounts.j0 k t631 t633 bt635.1 bt635.2 bt639.1 bt639.2 true))))))))) = some r := H
    have A7 := Aside0.mk A70
    clear A70
    replace H := Option.bind_eq_some_iff.mp H
    obtain ⟨t634, A80, H⟩ := H
    replace H : ((impl_AmountOf.f k t632).bind fun bt635 => ((spec_AmountOf.f k t632).bind fun bt637 => ((impl_SpanOf.f k t634).bind fun bt639 => ((spec_SpanOf.f k t634).bind fun bt641 => ((impl_AmountText.f k t631).bind fun t643 => ((spec_AmountText.f k t631).bind fun t644 => (if t643.toList = t644.toList then ((impl_SpanText.f k t633).bind fun t645 => ((spec_SpanText.f k t633).bind fun t646 => (if t645.toList = t646.toList then (if bt635.1 = bt637.1 then (if (bt635.2 != bt637.2) = true then (laws_FnAmounts.j0 k t631 t633 bt635.1 bt635.2 bt639.1 bt639.2 true) else (if bt639.1 = bt641.1 then (laws_FnAmounts.j0 k t631 t633 bt635.1 bt635.2 bt639.1 bt639.2 (bt639.2 != bt641.2)) else (laws_FnAmounts.j0 k t631 t633 bt635.1 bt635.2 bt639.1 bt639.2 true))) else (laws_FnAmounts.j0 k t631 t633 bt635.1 bt635.2 bt639.1 bt639.2 true)) else (laws_FnAmounts.j0 k t631 t633 bt635.1 bt635.2 bt639.1 bt639.2 true)))) else (laws_FnAmounts.j0 k t631 t633 bt635.1 bt635.2 bt639.1 bt639.2 true)))))))) = some r := H
    have A8 := Aside0.mk A80
    clear A80
    replace H := Option.bind_eq_some_iff.mp H
    obtain ⟨⟨t635, t636⟩, A90, H⟩ := H
    replace H : ((spec_AmountOf.f k t632).bind fun bt637 => ((impl_SpanOf.f k t634).bind fun bt639 => ((spec_SpanOf.f k t634).bind fun bt641 => ((impl_AmountText.f k t631).bind fun t643 => ((spec_AmountText.f k t631).bind fun t644 => (if t643.toList = t644.toList then ((impl_SpanText.f k t633).bind fun t645 => ((spec_SpanText.f k t633).bind fun t646 => (if t645.toList = t646.toList then (if t635 = bt637.1 then (if (t636 != bt637.2) = true then (laws_FnAmounts.j0 k t631 t633 t635 t636 bt639.1 bt639.2 true) else (if bt639.1 = bt641.1 then (laws_FnAmounts.j0 k t631 t633 t635 t636 bt639.1 bt639.2 (bt639.2 != bt641.2)) else (laws_FnAmounts.j0 k t631 t633 t635 t636 bt639.1 bt639.2 true))) else (laws_FnAmounts.j0 k t631 t633 t635 t636 bt639.1 bt639.2 true)) else (laws_FnAmounts.j0 k t631 t633 t635 t636 bt639.1 bt639.2 true)))) else (laws_FnAmounts.j0 k t631 t633 t635 t636 bt639.1 bt639.2 true))))))) = some r := H
    have A9 := Aside0.mk A90
    clear A90
    replace H := Option.bind_eq_some_iff.mp H
    obtain ⟨⟨t637, t638⟩, A100, H⟩ := H
    replace H : ((impl_SpanOf.f k t634).bind fun bt639 => ((spec_SpanOf.f k t634).bind fun bt641 => ((impl_AmountText.f k t631).bind fun t643 => ((spec_AmountText.f k t631).bind fun t644 => (if t643.toList = t644.toList then ((impl_SpanText.f k t633).bind fun t645 => ((spec_SpanText.f k t633).bind fun t646 => (if t645.toList = t646.toList then (if t635 = t637 then (if (t636 != t638) = true then (laws_FnAmounts.j0 k t631 t633 t635 t636 bt639.1 bt639.2 true) else (if bt639.1 = bt641.1 then (laws_FnAmounts.j0 k t631 t633 t635 t636 bt639.1 bt639.2 (bt639.2 != bt641.2)) else (laws_FnAmounts.j0 k t631 t633 t635 t636 bt639.1 bt639.2 true))) else (laws_FnAmounts.j0 k t631 t633 t635 t636 bt639.1 bt639.2 true)) else (laws_FnAmounts.j0 k t631 t633 t635 t636 bt639.1 bt639.2 true)))) else (laws_FnAmounts.j0 k t631 t633 t635 t636 bt639.1 bt639.2 true)))))) = some r := H
    have A10 := Aside0.mk A100
    clear A100
    replace H := Option.bind_eq_some_iff.mp H
    obtain ⟨⟨t639, t640⟩, A110, H⟩ := H
    replace H : ((spec_SpanOf.f k t634).bind fun bt641 => ((impl_AmountText.f k t631).bind fun t643 => ((spec_AmountText.f k t631).bind fun t644 => (if t643.toList = t644.toList then ((impl_SpanText.f k t633).bind fun t645 => ((spec_SpanText.f k t633).bind fun t646 => (if t645.toList = t646.toList then (if t635 = t637 then (if (t636 != t638) = true then (laws_FnAmounts.j0 k t631 t633 t635 t636 t639 t640 true) else (if t639 = bt641.1 then (laws_FnAmounts.j0 k t631 t633 t635 t636 t639 t640 (t640 != bt641.2)) else (laws_FnAmounts.j0 k t631 t633 t635 t636 t639 t640 true))) else (laws_FnAmounts.j0 k t631 t633 t635 t636 t639 t640 true)) else (laws_FnAmounts.j0 k t631 t633 t635 t636 t639 t640 true)))) else (laws_FnAmounts.j0 k t631 t633 t635 t636 t639 t640 true))))) = some r := H
    have A11 := Aside0.mk A110
    clear A110
    replace H := Option.bind_eq_some_iff.mp H
    obtain ⟨⟨t641, t642⟩, A120, H⟩ := H
    replace H : ((impl_AmountText.f k t631).bind fun t643 => ((spec_AmountText.f k t631).bind fun t644 => (if t643.toList = t644.toList then ((impl_SpanText.f k t633).bind fun t645 => ((spec_SpanText.f k t633).bind fun t646 => (if t645.toList = t646.toList then (if t635 = t637 then (if (t636 != t638) = true then (laws_FnAmounts.j0 k t631 t633 t635 t636 t639 t640 true) else (if t639 = t641 then (laws_FnAmounts.j0 k t631 t633 t635 t636 t639 t640 (t640 != t642)) else (laws_FnAmounts.j0 k t631 t633 t635 t636 t639 t640 true))) else (laws_FnAmounts.j0 k t631 t633 t635 t636 t639 t640 true)) else (laws_FnAmounts.j0 k t631 t633 t635 t636 t639 t640 true)))) else (laws_FnAmounts.j0 k t631 t633 t635 t636 t639 t640 true)))) = some r := H
    have A12 := Aside0.mk A120
    clear A120
    have HC13 := Aside0.mk H
    clear H
    go_upto_region 9 with (first | ((with_reducible refine gate_callee (f := 64) rfl ?_); refine goesL_ (some 24) rfl rfl Try.func64 (by kernel_rfl) rfl #[.slice A0 l0.length c0] rfl (by (try simp only [List.map_toArray, List.map_cons, List.map_nil]); first | done | rfl | (simp only [List.length_drop, List.length_take]; rfl)) ?_; (with_reducible refine (spec_DrawAmountText.calls k _ _ l0 t631 _ ?side1 ?side2 A5.out).mono ?_); (case side1 => repeat (first | exact (Kd.C_below HR0.out HB.out) | (with_reducible refine Kd.C_alloc ?_ _) | (with_reducible refine Kd.C_drewN ?_ _) | (with_reducible refine Kd.C_drew ?_))); (case side2 => exact HC0.out); rintro e w14 ⟨rfl, hb⟩; refine ⟨_, rfl, ?_⟩; have n0_ := Aside0.mk (below_step (by repeat (first | (with_reducible first | exact HB.out | apply below_alloc | apply pw_below_drewN | apply below_drew1) | exact HB.out)) hb); clear HB; have HB := n0_; clear n0_; (try clear hb); (try clear hb2); (try clear hk); (try clear hi)) | ((with_reducible refine gate_callee (f := 65) rfl ?_); refine goesL_ (some 26) rfl rfl Try.func65 (by kernel_rfl) rfl #[.slice A0 l0.length c0] rfl (by (try simp only [List.map_toArray, List.map_cons, List.map_nil]); first | done | rfl | (simp only [List.length_drop, List.length_take]; rfl)) ?_; (with_reducible refine (spec_DrawAmountOf.calls k _ _ l0 t632 _ ?side1 ?side2 A6.out).mono ?_); (case side1 => repeat (first | exact (Kd.C_below HR0.out HB.out) | (with_reducible refine Kd.C_alloc ?_ _) | (with_reducible refine Kd.C_drewN ?_ _) | (with_reducible refine Kd.C_drew ?_))); (case side2 => exact HC0.out); rintro e w15 ⟨rfl, hb⟩; refine ⟨_, rfl, ?_⟩; have n0_ := Aside0.mk (below_step (by repeat (first | (with_reducible first | exact HB.out | apply below_alloc | apply pw_below_drewN | apply below_drew1) | exact HB.out)) hb); clear HB; have HB := n0_; clear n0_; (try clear hb); (try clear hb2); (try clear hk); (try clear hi)) | ((with_reducible refine gate_callee (f := 66) rfl ?_); refine goesL_ (some 28) rfl rfl Try.func66 (by kernel_rfl) rfl #[.slice A0 l0.length c0] rfl (by (try simp only [List.map_toArray, List.map_cons, List.map_nil]); first | done | rfl | (simp only [List.length_drop, List.length_take]; rfl)) ?_; (with_reducible refine (spec_DrawSpanText.calls k _ _ l0 t633 _ ?side1 ?side2 A7.out).mono ?_); (case side1 => repeat (first | exact (Kd.C_below HR0.out HB.out) | (with_reducible refine Kd.C_alloc ?_ _) | (with_reducible refine Kd.C_drewN ?_ _) | (with_reducible refine Kd.C_drew ?_))); (case side2 => exact HC0.out); rintro e w16 ⟨rfl, hb⟩; refine ⟨_, rfl, ?_⟩; have n0_ := Aside0.mk (below_step (by repeat (first | (with_reducible first | exact HB.out | apply below_alloc | apply pw_below_drewN | apply below_drew1) | exact HB.out)) hb); clear HB; have HB := n0_; clear n0_; (try clear hb); (try clear hb2); (try clear hk); (try clear hi)) | ((with_reducible refine gate_callee (f := 67) rfl ?_); refine goesL_ (some 30) rfl rfl Try.func67 (by kernel_rfl) rfl #[.slice A0 l0.length c0] rfl (by (try simp only [List.map_toArray, List.map_cons, List.map_nil]); first | done | rfl | (simp only [List.length_drop, List.length_take]; rfl)) ?_; (with_reducible refine (spec_DrawSpanOf.calls k _ _ l0 t634 _ ?side1 ?side2 A8.out).mono ?_); (case side1 => repeat (first | exact (Kd.C_below HR0.out HB.out) | (with_reducible refine Kd.C_alloc ?_ _) | (with_reducible refine Kd.C_drewN ?_ _) | (with_reducible refine Kd.C_drew ?_))); (case side2 => exact HC0.out); rintro e w17 ⟨rfl, hb⟩; refine ⟨_, rfl, ?_⟩; have n0_ := Aside0.mk (below_step (by repeat (first | (with_reducible first | exact HB.out | apply below_alloc | apply pw_below_drewN | apply below_drew1) | exact HB.out)) hb); clear HB; have HB := n0_; clear n0_; (try clear hb); (try clear hb2); (try clear hk); (try clear hi)) | ((with_reducible refine gate_callee (f := 49) rfl ?_); refine goesL_ (some 33) rfl rfl Try.func49 (by kernel_rfl) rfl #[.string t632] rfl (by (try simp only [List.map_toArray, List.map_cons, List.map_nil]); first | done | rfl | (simp only [List.length_drop, List.length_take]; rfl)) ?_; (with_reducible refine (impl_AmountOf.calls k t632 t635 t636 _ A9.out).mono ?_); rintro e w' ⟨rfl, ⟨nd, rfl⟩⟩; refine ⟨_, rfl, ?_⟩) | ((with_reducible refine gate_callee (f := 48) rfl ?_); refine goesL_ (some 38) rfl rfl Try.func48 (by kernel_rfl) rfl #[.string t632] rfl (by (try simp only [List.map_toArray, List.map_cons, List.map_nil]); first | done | rfl | (simp only [List.length_drop, List.length_take]; rfl)) ?_; (with_reducible refine (spec_AmountOf.calls k t632 t637 t638 _ A10.out).mono ?_); rintro e w18 ⟨rfl, hb⟩; refine ⟨_, rfl, ?_⟩; have n0_ := Aside0.mk (below_step (by repeat (first | (with_reducible first | exact HB.out | apply below_alloc | apply pw_below_drewN | apply below_drew1) | exact HB.out)) hb); clear HB; have HB := n0_; clear n0_; (try clear hb); (try clear hb2); (try clear hk); (try clear hi)) | ((with_reducible refine gate_callee (f := 47) rfl ?_); refine goesL_ (some 43) rfl rfl Try.func47 (by kernel_rfl) rfl #[.string t634] rfl (by (try simp only [List.map_toArray, List.map_cons, List.map_nil]); first | done | rfl | (simp only [List.length_drop, List.length_take]; rfl)) ?_; (with_reducible refine (impl_SpanOf.calls k t634 t639 t640 _ A11.out).mono ?_); rintro e w' ⟨rfl, ⟨nd, rfl⟩⟩; refine ⟨_, rfl, ?_⟩) | ((with_reducible refine gate_callee (f := 46) rfl ?_); refine goesL_ (some 48) rfl rfl Try.func46 (by kernel_rfl) rfl #[.string t634] rfl (by (try simp only [List.map_toArray, List.map_cons, List.map_nil]); first | done | rfl | (simp only [List.length_drop, List.length_take]; rfl)) ?_; (with_reducible refine (spec_SpanOf.calls k t634 t641 t642 _ A12.out).mono ?_); rintro e w19 ⟨rfl, hb⟩; refine ⟨_, rfl, ?_⟩; have n0_ := Aside0.mk (below_step (by repeat (first | (with_reducible first | exact HB.out | apply below_alloc | apply pw_below_drewN | apply below_drew1) | exact HB.out)) hb); clear HB; have HB := n0_; clear n0_; (try clear hb); (try clear hb2); (try clear hk); (try clear hi)))
    (try simp only [Act.put, List.setIfInBounds_toArray, List.set_cons_zero, List.set_cons_succ])
    go_cut [82] (fun v82 wc => ∃ (kq : Nat) (x82_12 : Bool), v82 = .bool x82_12 ∧ Aside0 (laws_FnAmounts.j0 kq t631 t633 t635 t636 t639 t640 x82_12 = some r) ∧ Aside0 (kq ≤ k) ∧ Aside0 (Below w.heap.size w wc))
    case first =>
      have H := HC13.out
      clear HC13
      replace H := Option.bind_eq_some_iff.mp H
      obtain ⟨t643, A200, H⟩ := H
      replace H : ((spec_AmountText.f k t631).bind fun t644 => (if t643.toList = t644.toList then ((impl_SpanText.f k t633).bind fun t645 => ((spec_SpanText.f k t633).bind fun t646 => (if t645.toList = t646.toList then (if t635 = t637 then (if (t636 != t638) = true then (laws_FnAmounts.j0 k t631 t633 t635 t636 t639 t640 true) else (if t639 = t641 then (laws_FnAmounts.j0 k t631 t633 t635 t636 t639 t640 (t640 != t642)) else (laws_FnAmounts.j0 k t631 t633 t635 t636 t639 t640 true))) else (laws_FnAmounts.j0 k t631 t633 t635 t636 t639 t640 true)) else (laws_FnAmounts.j0 k t631 t633 t635 t636 t639 t640 true)))) else (laws_FnAmounts.j0 k t631 t633 t635 t636 t639 t640 true))) = some r := H
      have A20 := Aside0.mk A200
      clear A200
      replace H := Option.bind_eq_some_iff.mp H
      obtain ⟨t644, A210, H⟩ := H
      replace H : (if t643.toList = t644.toList then ((impl_SpanText.f k t633).bind fun t645 => ((spec_SpanText.f k t633).bind fun t646 => (if t645.toList = t646.toList then (if t635 = t637 then (if (t636 != t638) = true then (laws_FnAmounts.j0 k t631 t633 t635 t636 t639 t640 true) else (if t639 = t641 then (laws_FnAmounts.j0 k t631 t633 t635 t636 t639 t640 (t640 != t642)) else (laws_FnAmounts.j0 k t631 t633 t635 t636 t639 t640 true))) else (laws_FnAmounts.j0 k t631 t633 t635 t636 t639 t640 true)) else (laws_FnAmounts.j0 k t631 t633 t635 t636 t639 t640 true)))) else (laws_FnAmounts.j0 k t631 t633 t635 t636 t639 t640 true)) = some r := H
      have A21 := Aside0.mk A210
      clear A210
      by_cases c22 : t643.toList = t644.toList
      · rw [if_pos c22] at H
        have c22b0 : (t643.toList == t644.toList) = true := beq_iff_eq.mpr c22
        have c22b1 : (t643.toList != t644.toList) = false := bne_eq_false_iff_eq.mpr c22
        clear c22
        (first | rw [c22b0] | rw [c22b1] | (simp only [i64_w, i32_w]; rw [c22b0]) | skip)
        replace H := Option.bind_eq_some_iff.mp H
        obtain ⟨t645, A230, H⟩ := H
        replace H : ((spec_SpanText.f k t633).bind fun t646 => (if t645.toList = t646.toList then (if t635 = t637 then (if (t636 != t638) = true then (laws_FnAmounts.j0 k t631 t633 t635 t636 t639 t640 true) else (if t639 = t641 then (laws_FnAmounts.j0 k t631 t633 t635 t636 t639 t640 (t640 != t642)) else (laws_FnAmounts.j0 k t631 t633 t635 t636 t639 t640 true))) else (laws_FnAmounts.j0 k t631 t633 t635 t636 t639 t640 true)) else (laws_FnAmounts.j0 k t631 t633 t635 t636 t639 t640 true))) = some r := H
        have A23 := Aside0.mk A230
        clear A230
        replace H := Option.bind_eq_some_iff.mp H
        obtain ⟨t646, A240, H⟩ := H
        replace H : (if t645.toList = t646.toList then (if t635 = t637 then (if (t636 != t638) = true then (laws_FnAmounts.j0 k t631 t633 t635 t636 t639 t640 true) else (if t639 = t641 then (laws_FnAmounts.j0 k t631 t633 t635 t636 t639 t640 (t640 != t642)) else (laws_FnAmounts.j0 k t631 t633 t635 t636 t639 t640 true))) else (laws_FnAmounts.j0 k t631 t633 t635 t636 t639 t640 true)) else (laws_FnAmounts.j0 k t631 t633 t635 t636 t639 t640 true)) = some r := H
        have A24 := Aside0.mk A240
        clear A240
        by_cases c25 : t645.toList = t646.toList
        · rw [if_pos c25] at H
          have c25b0 : (t645.toList == t646.toList) = true := beq_iff_eq.mpr c25
          have c25b1 : (t645.toList != t646.toList) = false := bne_eq_false_iff_eq.mpr c25
          clear c25
          by_cases c26 : t635 = t637
          · rw [if_pos c26] at H
            have c26b0 : (t635 == t637) = true := beq_iff_eq.mpr c26
            have c26b1 : (t635 != t637) = false := bne_eq_false_iff_eq.mpr c26
            clear c26
            by_cases c27 : (t636 != t638) = true
            · rw [if_pos c27] at H
              have c27b0 : (t636 != t638) = true := c27
              (try (have c27b1 : decide (t636 = t638) = false := by simpa using c27))
              (try (have c27b2 : (t636 == t638) = false := by simpa using c27))
              (try (have c27b3 : ¬ (t636 = t638) := by simpa using c27))
              clear c27
              have H' := Aside0.mk H
              clear H
              go_wp2_with (first | ((with_reducible refine gate_callee (f := 38) rfl ?_); refine goesL_ (some 52) rfl rfl Try.func38 (by kernel_rfl) rfl #[.int .i64 t631] rfl (by (try simp only [List.map_toArray, List.map_cons, List.map_nil]); first | done | rfl | (simp only [List.length_drop, List.length_take]; rfl)) ?_; (with_reducible refine (impl_AmountText.calls k t631 t643 _ A20.out).mono ?_); rintro e w' ⟨rfl, ⟨nd, rfl⟩⟩; refine ⟨_, rfl, ?_⟩) | ((with_reducible refine gate_callee (f := 37) rfl ?_); refine goesL_ (some 54) rfl rfl Try.func37 (by kernel_rfl) rfl #[.int .i64 t631] rfl (by (try simp only [List.map_toArray, List.map_cons, List.map_nil]); first | done | rfl | (simp only [List.length_drop, List.length_take]; rfl)) ?_; (with_reducible refine (spec_AmountText.calls k t631 t644 _ A21.out).mono ?_); rintro e w28 ⟨rfl, hb⟩; refine ⟨_, rfl, ?_⟩; have n0_ := Aside0.mk (below_step (by repeat (first | (with_reducible first | exact HB.out | apply below_alloc | apply pw_below_drewN | apply below_drew1) | exact HB.out)) hb); clear HB; have HB := n0_; clear n0_; (try clear hb); (try clear hb2); (try clear hk); (try clear hi)) | (go_at_call 36; (with_reducible refine (impl_SpanText.calls k t633 t645 _ A23.out).mono ?_); rintro e w' ⟨rfl, ⟨nd, rfl⟩⟩) | (go_at_call 35; (with_reducible refine (spec_SpanText.calls k t633 t646 _ A24.out).mono ?_); rintro e w29 ⟨rfl, hb⟩; have n0_ := Aside0.mk (below_step (by repeat (first | (with_reducible first | exact HB.out | apply below_alloc | apply pw_below_drewN | apply below_drew1) | exact HB.out)) hb); clear HB; have HB := n0_; clear n0_; (try clear hb); (try clear hb2); (try clear hk); (try clear hi)))
              go_meet
              case rel => exact ⟨_, (true), (by first | rfl | (simp; done) | (simp [*]; done)), H', ⟨by first | omega | exact Nat.le_refl _⟩, ⟨by repeat (first | (with_reducible first | exact HB.out | apply below_alloc | apply pw_below_drewN | apply below_drew1) | exact HB.out)⟩⟩
            · rw [if_neg c27] at H
              have c27b0 : (t636 != t638) = false := by simpa using c27
              (try (have c27b1 : decide (t636 = t638) = true := by simpa using c27))
              (try (have c27b2 : (t636 == t638) = true := by simpa using c27))
              clear c27
              by_cases c30 : t639 = t641
              · rw [if_pos c30] at H
                have c30b0 : (t639 == t641) = true := beq_iff_eq.mpr c30
                have c30b1 : (t639 != t641) = false := bne_eq_false_iff_eq.mpr c30
                clear c30
                have H' := Aside0.mk H
                clear H
                go_wp2_with (first | ((with_reducible refine gate_callee (f := 38) rfl ?_); refine goesL_ (some 52) rfl rfl Try.func38 (by kernel_rfl) rfl #[.int .i64 t631] rfl (by (try simp only [List.map_toArray, List.map_cons, List.map_nil]); first | done | rfl | (simp only [List.length_drop, List.length_take]; rfl)) ?_; (with_reducible refine (impl_AmountText.calls k t631 t643 _ A20.out).mono ?_); rintro e w' ⟨rfl, ⟨nd, rfl⟩⟩; refine ⟨_, rfl, ?_⟩) | ((with_reducible refine gate_callee (f := 37) rfl ?_); refine goesL_ (some 54) rfl rfl Try.func37 (by kernel_rfl) rfl #[.int .i64 t631] rfl (by (try simp only [List.map_toArray, List.map_cons, List.map_nil]); first | done | rfl | (simp only [List.length_drop, List.length_take]; rfl)) ?_; (with_reducible refine (spec_AmountText.calls k t631 t644 _ A21.out).mono ?_); rintro e w31 ⟨rfl, hb⟩; refine ⟨_, rfl, ?_⟩; have n0_ := Aside0.mk (below_step (by repeat (first | (with_reducible first | exact HB.out | apply below_alloc | apply pw_below_drewN | apply below_drew1) | exact HB.out)) hb); clear HB; have HB := n0_; clear n0_; (try clear hb); (try clear hb2); (try clear hk); (try clear hi)) | (go_at_call 36; (with_reducible refine (impl_SpanText.calls k t633 t645 _ A23.out).mono ?_); rintro e w' ⟨rfl, ⟨nd, rfl⟩⟩) | (go_at_call 35; (with_reducible refine (spec_SpanText.calls k t633 t646 _ A24.out).mono ?_); rintro e w32 ⟨rfl, hb⟩; have n0_ := Aside0.mk (below_step (by repeat (first | (with_reducible first | exact HB.out | apply below_alloc | apply pw_below_drewN | apply below_drew1) | exact HB.out)) hb); clear HB; have HB := n0_; clear n0_; (try clear hb); (try clear hb2); (try clear hk); (try clear hi)))
                go_meet
                case rel => exact ⟨_, ((t640 != t642)), (by first | rfl | (simp; done) | (simp [*]; done)), H', ⟨by first | omega | exact Nat.le_refl _⟩, ⟨by repeat (first | (with_reducible first | exact HB.out | apply below_alloc | apply pw_below_drewN | apply below_drew1) | exact HB.out)⟩⟩
              · rw [if_neg c30] at H
                have c30b0 : (t639 == t641) = false := beq_eq_false_iff_ne.mpr c30
                have c30b1 : (t639 != t641) = true := bne_iff_ne.mpr c30
                have H' := Aside0.mk H
                clear H
                go_wp2_with (first | ((with_reducible refine gate_callee (f := 38) rfl ?_); refine goesL_ (some 52) rfl rfl Try.func38 (by kernel_rfl) rfl #[.int .i64 t631] rfl (by (try simp only [List.map_toArray, List.map_cons, List.map_nil]); first | done | rfl | (simp only [List.length_drop, List.length_take]; rfl)) ?_; (with_reducible refine (impl_AmountText.calls k t631 t643 _ A20.out).mono ?_); rintro e w' ⟨rfl, ⟨nd, rfl⟩⟩; refine ⟨_, rfl, ?_⟩) | ((with_reducible refine gate_callee (f := 37) rfl ?_); refine goesL_ (some 54) rfl rfl Try.func37 (by kernel_rfl) rfl #[.int .i64 t631] rfl (by (try simp only [List.map_toArray, List.map_cons, List.map_nil]); first | done | rfl | (simp only [List.length_drop, List.length_take]; rfl)) ?_; (with_reducible refine (spec_AmountText.calls k t631 t644 _ A21.out).mono ?_); rintro e w33 ⟨rfl, hb⟩; refine ⟨_, rfl, ?_⟩; have n0_ := Aside0.mk (below_step (by repeat (first | (with_reducible first | exact HB.out | apply below_alloc | apply pw_below_drewN | apply below_drew1) | exact HB.out)) hb); clear HB; have HB := n0_; clear n0_; (try clear hb); (try clear hb2); (try clear hk); (try clear hi)) | (go_at_call 36; (with_reducible refine (impl_SpanText.calls k t633 t645 _ A23.out).mono ?_); rintro e w' ⟨rfl, ⟨nd, rfl⟩⟩) | (go_at_call 35; (with_reducible refine (spec_SpanText.calls k t633 t646 _ A24.out).mono ?_); rintro e w34 ⟨rfl, hb⟩; have n0_ := Aside0.mk (below_step (by repeat (first | (with_reducible first | exact HB.out | apply below_alloc | apply pw_below_drewN | apply below_drew1) | exact HB.out)) hb); clear HB; have HB := n0_; clear n0_; (try clear hb); (try clear hb2); (try clear hk); (try clear hi)))
                go_meet
                case rel => exact ⟨_, (true), (by first | rfl | (simp; done) | (simp [*]; done)), H', ⟨by first | omega | exact Nat.le_refl _⟩, ⟨by repeat (first | (with_reducible first | exact HB.out | apply below_alloc | apply pw_below_drewN | apply below_drew1) | exact HB.out)⟩⟩
          · rw [if_neg c26] at H
            have c26b0 : (t635 == t637) = false := beq_eq_false_iff_ne.mpr c26
            have c26b1 : (t635 != t637) = true := bne_iff_ne.mpr c26
            have H' := Aside0.mk H
            clear H
            go_wp2_with (first | ((with_reducible refine gate_callee (f := 38) rfl ?_); refine goesL_ (some 52) rfl rfl Try.func38 (by kernel_rfl) rfl #[.int .i64 t631] rfl (by (try simp only [List.map_toArray, List.map_cons, List.map_nil]); first | done | rfl | (simp only [List.length_drop, List.length_take]; rfl)) ?_; (with_reducible refine (impl_AmountText.calls k t631 t643 _ A20.out).mono ?_); rintro e w' ⟨rfl, ⟨nd, rfl⟩⟩; refine ⟨_, rfl, ?_⟩) | ((with_reducible refine gate_callee (f := 37) rfl ?_); refine goesL_ (some 54) rfl rfl Try.func37 (by kernel_rfl) rfl #[.int .i64 t631] rfl (by (try simp only [List.map_toArray, List.map_cons, List.map_nil]); first | done | rfl | (simp only [List.length_drop, List.length_take]; rfl)) ?_; (with_reducible refine (spec_AmountText.calls k t631 t644 _ A21.out).mono ?_); rintro e w35 ⟨rfl, hb⟩; refine ⟨_, rfl, ?_⟩; have n0_ := Aside0.mk (below_step (by repeat (first | (with_reducible first | exact HB.out | apply below_alloc | apply pw_below_drewN | apply below_drew1) | exact HB.out)) hb); clear HB; have HB := n0_; clear n0_; (try clear hb); (try clear hb2); (try clear hk); (try clear hi)) | (go_at_call 36; (with_reducible refine (impl_SpanText.calls k t633 t645 _ A23.out).mono ?_); rintro e w' ⟨rfl, ⟨nd, rfl⟩⟩) | (go_at_call 35; (with_reducible refine (spec_SpanText.calls k t633 t646 _ A24.out).mono ?_); rintro e w36 ⟨rfl, hb⟩; have n0_ := Aside0.mk (below_step (by repeat (first | (with_reducible first | exact HB.out | apply below_alloc | apply pw_below_drewN | apply below_drew1) | exact HB.out)) hb); clear HB; have HB := n0_; clear n0_; (try clear hb); (try clear hb2); (try clear hk); (try clear hi)))
            go_meet
            case rel => exact ⟨_, (true), (by first | rfl | (simp; done) | (simp [*]; done)), H', ⟨by first | omega | exact Nat.le_refl _⟩, ⟨by repeat (first | (with_reducible first | exact HB.out | apply below_alloc | apply pw_below_drewN | apply below_drew1) | exact HB.out)⟩⟩
        · rw [if_neg c25] at H
          have c25b0 : (t645.toList == t646.toList) = false := beq_eq_false_iff_ne.mpr c25
          have c25b1 : (t645.toList != t646.toList) = true := bne_iff_ne.mpr c25
          have H' := Aside0.mk H
          clear H
          go_wp2_with (first | ((with_reducible refine gate_callee (f := 38) rfl ?_); refine goesL_ (some 52) rfl rfl Try.func38 (by kernel_rfl) rfl #[.int .i64 t631] rfl (by (try simp only [List.map_toArray, List.map_cons, List.map_nil]); first | done | rfl | (simp only [List.length_drop, List.length_take]; rfl)) ?_; (with_reducible refine (impl_AmountText.calls k t631 t643 _ A20.out).mono ?_); rintro e w' ⟨rfl, ⟨nd, rfl⟩⟩; refine ⟨_, rfl, ?_⟩) | ((with_reducible refine gate_callee (f := 37) rfl ?_); refine goesL_ (some 54) rfl rfl Try.func37 (by kernel_rfl) rfl #[.int .i64 t631] rfl (by (try simp only [List.map_toArray, List.map_cons, List.map_nil]); first | done | rfl | (simp only [List.length_drop, List.length_take]; rfl)) ?_; (with_reducible refine (spec_AmountText.calls k t631 t644 _ A21.out).mono ?_); rintro e w37 ⟨rfl, hb⟩; refine ⟨_, rfl, ?_⟩; have n0_ := Aside0.mk (below_step (by repeat (first | (with_reducible first | exact HB.out | apply below_alloc | apply pw_below_drewN | apply below_drew1) | exact HB.out)) hb); clear HB; have HB := n0_; clear n0_; (try clear hb); (try clear hb2); (try clear hk); (try clear hi)) | (go_at_call 36; (with_reducible refine (impl_SpanText.calls k t633 t645 _ A23.out).mono ?_); rintro e w' ⟨rfl, ⟨nd, rfl⟩⟩) | (go_at_call 35; (with_reducible refine (spec_SpanText.calls k t633 t646 _ A24.out).mono ?_); rintro e w38 ⟨rfl, hb⟩; have n0_ := Aside0.mk (below_step (by repeat (first | (with_reducible first | exact HB.out | apply below_alloc | apply pw_below_drewN | apply below_drew1) | exact HB.out)) hb); clear HB; have HB := n0_; clear n0_; (try clear hb); (try clear hb2); (try clear hk); (try clear hi)))
          go_meet
          case rel => exact ⟨_, (true), (by first | rfl | (simp; done) | (simp [*]; done)), H', ⟨by first | omega | exact Nat.le_refl _⟩, ⟨by repeat (first | (with_reducible first | exact HB.out | apply below_alloc | apply pw_below_drewN | apply below_drew1) | exact HB.out)⟩⟩
      · rw [if_neg c22] at H
        have c22b0 : (t643.toList == t644.toList) = false := beq_eq_false_iff_ne.mpr c22
        have c22b1 : (t643.toList != t644.toList) = true := bne_iff_ne.mpr c22
        (first | rw [c22b0] | rw [c22b1] | (simp only [i64_w, i32_w]; rw [c22b0]) | skip)
        have H' := Aside0.mk H
        clear H
        go_wp2_with (first | ((with_reducible refine gate_callee (f := 38) rfl ?_); refine goesL_ (some 52) rfl rfl Try.func38 (by kernel_rfl) rfl #[.int .i64 t631] rfl (by (try simp only [List.map_toArray, List.map_cons, List.map_nil]); first | done | rfl | (simp only [List.length_drop, List.length_take]; rfl)) ?_; (with_reducible refine (impl_AmountText.calls k t631 t643 _ A20.out).mono ?_); rintro e w' ⟨rfl, ⟨nd, rfl⟩⟩; refine ⟨_, rfl, ?_⟩) | ((with_reducible refine gate_callee (f := 37) rfl ?_); refine goesL_ (some 54) rfl rfl Try.func37 (by kernel_rfl) rfl #[.int .i64 t631] rfl (by (try simp only [List.map_toArray, List.map_cons, List.map_nil]); first | done | rfl | (simp only [List.length_drop, List.length_take]; rfl)) ?_; (with_reducible refine (spec_AmountText.calls k t631 t644 _ A21.out).mono ?_); rintro e w39 ⟨rfl, hb⟩; refine ⟨_, rfl, ?_⟩; have n0_ := Aside0.mk (below_step (by repeat (first | (with_reducible first | exact HB.out | apply below_alloc | apply pw_below_drewN | apply below_drew1) | exact HB.out)) hb); clear HB; have HB := n0_; clear n0_; (try clear hb); (try clear hb2); (try clear hk); (try clear hi)))
        go_meet
        case rel => exact ⟨_, (true), (by first | rfl | (simp; done) | (simp [*]; done)), H', ⟨by first | omega | exact Nat.le_refl _⟩, ⟨by repeat (first | (with_reducible first | exact HB.out | apply below_alloc | apply pw_below_drewN | apply below_drew1) | exact HB.out)⟩⟩
    case rest =>
      clear HC13
      try clear c1
      try clear c2
      try clear p2
      try clear c3
      try clear c4
      try clear c5
      try clear c6
      try clear c17
      try clear c22
      try clear c22b0
      try clear c22b1
      try clear c25
      try clear c25b0
      try clear c25b1
      try clear c26
      try clear c26b0
      try clear c26b1
      try clear c27
      try clear c27b0
      try clear c27b1
      try clear c27b2
      try clear c30
      try clear c30b0
      try clear c30b1
      try clear c37
      try clear c38
      obtain ⟨kq, x82_12, rfl, HA, HJ12, HB⟩ := hcut
      cases kq with
      | zero => exact absurd HA.out (by simp [laws_FnAmounts.j0])
      | succ kj12 =>
        have H := HA.out
        clear HA
        simp only [laws_FnAmounts.j0] at H
        by_cases c40 : x82_12 = true
        · subst c40
          have H1 : (some false) = some r := by rw [if_pos rfl] at H; exact H
          clear H
          have H := H1
          clear H1
          obtain rfl := Option.some.inj H
          go_wp2
          go_ret
          exact ⟨by first | rfl | (simp [errW_none, errW_some] <;> rfl) | (simp [*, errW_none, errW_some] <;> rfl), by repeat (first | (with_reducible first | exact HB.out | apply below_alloc | apply pw_below_drewN | apply below_drew1) | exact HB.out)⟩
        · replace c40 := Bool.eq_false_iff.mpr c40
          subst c40
          have H1 : (if t631 ≥ 0 then (laws_FnAmounts.j1 kj12 t631 t633 t635 t636 t639 t640 (decide (t631 ≤ 1000000000000))) else (laws_FnAmounts.j1 kj12 t631 t633 t635 t636 t639 t640 false)) = some r := by rw [if_neg (show ¬ (false = true) by decide)] at H; exact H
          clear H
          have H := H1
          clear H1
          have HC41 := Aside0.mk H
          clear H
          go_upto_region 11 with (fail)
          go_cut [88] (fun v88 wc => ∃ (kq : Nat) (x88_40 : Bool), v88 = .bool x88_40 ∧ Aside0 (laws_FnAmounts.j1 kq t631 t633 t635 t636 t639 t640 x88_40 = some r) ∧ Aside0 (kq ≤ kj12) ∧ Aside0 (Below w.heap.size w wc))
          case first =>
            have H := HC41.out
            clear HC41
            by_cases c42 : t631 ≥ 0
            · rw [if_pos c42] at H
              have c42b0 : decide (0 ≤ t631) = true := decide_eq_true c42
              clear c42
              (first | rw [c42b0] | (simp only [i64_w, i32_w]; rw [c42b0]) | skip)
              have H' := Aside0.mk H
              clear H
              go_wp2
              go_meet
              case rel => exact ⟨_, (decide (t631 ≤ 1000000000000)), (by first | rfl | (simp; done) | (simp [*]; done)), H', ⟨by have := HJ12.out; first | omega | exact Nat.le_refl _⟩, ⟨by repeat (first | (with_reducible first | exact HB.out | apply below_alloc | apply pw_below_drewN | apply below_drew1) | exact HB.out)⟩⟩
            · rw [if_neg c42] at H
              have c42b0 : decide (0 ≤ t631) = false := decide_eq_false c42
              clear c42
              (first | rw [c42b0] | (simp only [i64_w, i32_w]; rw [c42b0]) | skip)
              have H' := Aside0.mk H
              clear H
              go_wp2
              go_meet
              case rel => exact ⟨_, (false), (by first | rfl | (simp; done) | (simp [*]; done)), H', ⟨by have := HJ12.out; first | omega | exact Nat.le_refl _⟩, ⟨by repeat (first | (with_reducible first | exact HB.out | apply below_alloc | apply pw_below_drewN | apply below_drew1) | exact HB.out)⟩⟩
          case rest =>
            clear HC41
            try clear c1
            try clear c2
            try clear p2
            try clear c3
            try clear c4
            try clear c5
            try clear c6
            try clear c17
            try clear c22
            try clear c22b0
            try clear c22b1
            try clear c25
            try clear c25b0
            try clear c25b1
            try clear c26
            try clear c26b0
            try clear c26b1
            try clear c27
            try clear c27b0
            try clear c27b1
            try clear c27b2
            try clear c30
            try clear c30b0
            try clear c30b1
            try clear c37
            try clear c38
            try clear c40
            try clear c42
            try clear c42b0
            try clear p2
            obtain ⟨kq, x88_40, rfl, HA, HJ40, HB⟩ := hcut
            cases kq with
            | zero => exact absurd HA.out (by simp [laws_FnAmounts.j1])
            | succ kj40 =>
              have H := HA.out
              clear HA
              simp only [laws_FnAmounts.j1] at H
              have HC43 := Aside0.mk H
              clear H
              go_upto_if 88 with (fail)
              go_cut [] (fun wc => ∃ (kq : Nat), Aside0 (laws_FnAmounts.j2 kq t633 t635 t636 t639 t640 = some r) ∧ Aside0 (kq ≤ kj40) ∧ Aside0 (Below w.heap.size w wc))
              case first =>
                have H := HC43.out
                clear HC43
                by_cases c44 : x88_40 = true
                · subst c44
                  have H1 : ((impl_AmountText.f kj40 t631).bind fun t647 => ((impl_AmountOf.f kj40 t647).bind fun bt648 => (if bt648.2 = true then (if bt648.1 = t631 then (laws_FnAmounts.j2 kj40 t633 t635 t636 t639 t640) else (some false)) else (some false)))) = some r := by rw [if_pos rfl] at H; exact H
                  clear H
                  have H := H1
                  clear H1
                  replace H := Option.bind_eq_some_iff.mp H
                  obtain ⟨t647, A450, H⟩ := H
                  replace H : ((impl_AmountOf.f kj40 t647).bind fun bt648 => (if bt648.2 = true then (if bt648.1 = t631 then (laws_FnAmounts.j2 kj40 t633 t635 t636 t639 t640) else (some false)) else (some false))) = some r := H
                  have A45 := Aside0.mk A450
                  clear A450
                  replace H := Option.bind_eq_some_iff.mp H
                  obtain ⟨⟨t648, t649⟩, A460, H⟩ := H
                  replace H : (if t649 = true then (if t648 = t631 then (laws_FnAmounts.j2 kj40 t633 t635 t636 t639 t640) else (some false)) else (some false)) = some r := H
                  have A46 := Aside0.mk A460
                  clear A460
                  by_cases c47 : t649 = true
                  · subst c47
                    have H1 : (if t648 = t631 then (laws_FnAmounts.j2 kj40 t633 t635 t636 t639 t640) else (some false)) = some r := by rw [if_pos rfl] at H; exact H
                    clear H
                    have H := H1
                    clear H1
                    have HC48 := Aside0.mk H
                    clear H
                    go_upto_if 101 with (first | ((with_reducible refine gate_callee (f := 38) rfl ?_); refine goesL_ (some 91) rfl rfl Try.func38 (by kernel_rfl) rfl #[.int .i64 t631] rfl (by (try simp only [List.map_toArray, List.map_cons, List.map_nil]); first | done | rfl | (simp only [List.length_drop, List.length_take]; rfl)) ?_; (with_reducible refine (impl_AmountText.calls kj40 t631 t647 _ A45.out).mono ?_); rintro e w' ⟨rfl, ⟨nd, rfl⟩⟩; refine ⟨_, rfl, ?_⟩) | ((with_reducible refine gate_callee (f := 49) rfl ?_); refine goesL_ (some 92) rfl rfl Try.func49 (by kernel_rfl) rfl #[.string t647] rfl (by (try simp only [List.map_toArray, List.map_cons, List.map_nil]); first | done | rfl | (simp only [List.length_drop, List.length_take]; rfl)) ?_; (with_reducible refine (impl_AmountOf.calls kj40 t647 t648 true _ A46.out).mono ?_); rintro e w' ⟨rfl, ⟨nd, rfl⟩⟩; refine ⟨_, rfl, ?_⟩))
                    (try simp only [Act.put, List.setIfInBounds_toArray, List.set_cons_zero, List.set_cons_succ])
                    have H := HC48.out
                    clear HC48
                    by_cases c49 : t648 = t631
                    · rw [if_pos c49] at H
                      have c49b0 : (t648 == t631) = true := beq_iff_eq.mpr c49
                      have c49b1 : (t648 != t631) = false := bne_eq_false_iff_eq.mpr c49
                      clear c49
                      (first | rw [c49b0] | rw [c49b1] | (simp only [i64_w, i32_w]; rw [c49b0]) | skip)
                      have H' := Aside0.mk H
                      clear H
                      go_wp2
                      go_meet
                      case rel => exact ⟨_, H', ⟨by have := HJ12.out; have := HJ40.out; first | omega | exact Nat.le_refl _⟩, ⟨by repeat (first | (with_reducible first | exact HB.out | apply below_alloc | apply pw_below_drewN | apply below_drew1) | exact HB.out)⟩⟩
                    · rw [if_neg c49] at H
                      have c49b0 : (t648 == t631) = false := beq_eq_false_iff_ne.mpr c49
                      have c49b1 : (t648 != t631) = true := bne_iff_ne.mpr c49
                      (first | rw [c49b0] | rw [c49b1] | (simp only [i64_w, i32_w]; rw [c49b0]) | skip)
                      obtain rfl := Option.some.inj H
                      go_wp2
                      go_ret
                      exact ⟨by first | rfl | (simp [errW_none, errW_some] <;> rfl) | (simp [*, errW_none, errW_some] <;> rfl), by repeat (first | (with_reducible first | exact HB.out | apply below_alloc | apply pw_below_drewN | apply below_drew1) | exact HB.out)⟩
                  · replace c47 := Bool.eq_false_iff.mpr c47
                    subst c47
                    have H1 : (some false) = some r := by rw [if_neg (show ¬ (false = true) by decide)] at H; exact H
                    clear H
                    have H := H1
                    clear H1
                    obtain rfl := Option.some.inj H
                    go_wp2_with (first | ((with_reducible refine gate_callee (f := 38) rfl ?_); refine goesL_ (some 91) rfl rfl Try.func38 (by kernel_rfl) rfl #[.int .i64 t631] rfl (by (try simp only [List.map_toArray, List.map_cons, List.map_nil]); first | done | rfl | (simp only [List.length_drop, List.length_take]; rfl)) ?_; (with_reducible refine (impl_AmountText.calls kj40 t631 t647 _ A45.out).mono ?_); rintro e w' ⟨rfl, ⟨nd, rfl⟩⟩; refine ⟨_, rfl, ?_⟩) | ((with_reducible refine gate_callee (f := 49) rfl ?_); refine goesL_ (some 92) rfl rfl Try.func49 (by kernel_rfl) rfl #[.string t647] rfl (by (try simp only [List.map_toArray, List.map_cons, List.map_nil]); first | done | rfl | (simp only [List.length_drop, List.length_take]; rfl)) ?_; (with_reducible refine (impl_AmountOf.calls kj40 t647 t648 false _ A46.out).mono ?_); rintro e w' ⟨rfl, ⟨nd, rfl⟩⟩; refine ⟨_, rfl, ?_⟩))
                    go_ret
                    exact ⟨by first | rfl | (simp [errW_none, errW_some] <;> rfl) | (simp [*, errW_none, errW_some] <;> rfl), by repeat (first | (with_reducible first | exact HB.out | apply below_alloc | apply pw_below_drewN | apply below_drew1) | exact HB.out)⟩
                · replace c44 := Bool.eq_false_iff.mpr c44
                  subst c44
                  have H1 : (laws_FnAmounts.j2 kj40 t633 t635 t636 t639 t640) = some r := by rw [if_neg (show ¬ (false = true) by decide)] at H; exact H
                  clear H
                  have H := H1
                  clear H1
                  have H' := Aside0.mk H
                  clear H
                  go_wp2
                  go_meet
                  case rel => exact ⟨_, H', ⟨by have := HJ12.out; have := HJ40.out; first | omega | exact Nat.le_refl _⟩, ⟨by repeat (first | (with_reducible first | exact HB.out | apply below_alloc | apply pw_below_drewN | apply below_drew1) | exact HB.out)⟩⟩
              case rest =>
                clear HC43
                try clear c1
                try clear c2
                try clear p2
                try clear c3
                try clear c4
                try clear c5
                try clear c6
                try clear c17
                try clear c22
                try clear c22b0
                try clear c22b1
                try clear c25
                try clear c25b0
                try clear c25b1
                try clear c26
                try clear c26b0
                try clear c26b1
                try clear c27
                try clear c27b0
                try clear c27b1
                try clear c27b2
                try clear c30
                try clear c30b0
                try clear c30b1
                try clear c37
                try clear c38
                try clear c40
                try clear c42
                try clear c42b0
                try clear c44
                try clear c46
                try clear c47
                try clear c48
                try clear c49
                try clear c49b0
                try clear c49b1
                try clear p2
                obtain ⟨kq, HA, HJ42, HB⟩ := hcut
                cases kq with
                | zero => exact absurd HA.out (by simp [laws_FnAmounts.j2])
                | succ kj42 =>
                  have H := HA.out
                  clear HA
                  simp only [laws_FnAmounts.j2] at H
                  have HC50 := Aside0.mk H
                  clear H
                  go_upto_region 15 with (fail)
                  go_cut [107] (fun v107 wc => ∃ (kq : Nat) (x107_49 : Bool), v107 = .bool x107_49 ∧ Aside0 (laws_FnAmounts.j3 kq t633 t635 t636 t639 t640 x107_49 = some r) ∧ Aside0 (kq ≤ kj42) ∧ Aside0 (Below w.heap.size w wc))
                  case first =>
                    have H := HC50.out
                    clear HC50
                    by_cases c51 : t633 ≥ 0
                    · rw [if_pos c51] at H
                      have c51b0 : decide (0 ≤ t633) = true := decide_eq_true c51
                      clear c51
                      (first | rw [c51b0] | (simp only [i64_w, i32_w]; rw [c51b0]) | skip)
                      have H' := Aside0.mk H
                      clear H
                      go_wp2
                      go_meet
                      case rel => exact ⟨_, (decide (t633 ≤ 1000000)), (by first | rfl | (simp; done) | (simp [*]; done)), H', ⟨by have := HJ12.out; have := HJ40.out; have := HJ42.out; first | omega | exact Nat.le_refl _⟩, ⟨by repeat (first | (with_reducible first | exact HB.out | apply below_alloc | apply pw_below_drewN | apply below_drew1) | exact HB.out)⟩⟩
                    · rw [if_neg c51] at H
                      have c51b0 : decide (0 ≤ t633) = false := decide_eq_false c51
                      clear c51
                      (first | rw [c51b0] | (simp only [i64_w, i32_w]; rw [c51b0]) | skip)
                      have H' := Aside0.mk H
                      clear H
                      go_wp2
                      go_meet
                      case rel => exact ⟨_, (false), (by first | rfl | (simp; done) | (simp [*]; done)), H', ⟨by have := HJ12.out; have := HJ40.out; have := HJ42.out; first | omega | exact Nat.le_refl _⟩, ⟨by repeat (first | (with_reducible first | exact HB.out | apply below_alloc | apply pw_below_drewN | apply below_drew1) | exact HB.out)⟩⟩
                  case rest =>
                    clear HC50
                    try clear c1
                    try clear c2
                    try clear p2
                    try clear c3
                    try clear c4
                    try clear c5
                    try clear c6
                    try clear c17
                    try clear c22
                    try clear c22b0
                    try clear c22b1
                    try clear c25
                    try clear c25b0
                    try clear c25b1
                    try clear c26
                    try clear c26b0
                    try clear c26b1
                    try clear c27
                    try clear c27b0
                    try clear c27b1
                    try clear c27b2
                    try clear c30
                    try clear c30b0
                    try clear c30b1
                    try clear c37
                    try clear c38
                    try clear c40
                    try clear c42
                    try clear c42b0
                    try clear c44
                    try clear c46
                    try clear c47
                    try clear c48
                    try clear c49
                    try clear c49b0
                    try clear c49b1
                    try clear c50
                    try clear c51
                    try clear c51b0
                    try clear p2
                    obtain ⟨kq, x107_49, rfl, HA, HJ49, HB⟩ := hcut
                    cases kq with
                    | zero => exact absurd HA.out (by simp [laws_FnAmounts.j3])
                    | succ kj49 =>
                      have H := HA.out
                      clear HA
                      simp only [laws_FnAmounts.j3] at H
                      have HC52 := Aside0.mk H
                      clear H
                      go_upto_if 107 with (fail)
                      go_cut [] (fun wc => ∃ (kq : Nat), Aside0 (laws_FnAmounts.j4 kq t635 t636 t639 t640 = some r) ∧ Aside0 (kq ≤ kj49) ∧ Aside0 (Below w.heap.size w wc))
                      case first =>
                        have H := HC52.out
                        clear HC52
                        by_cases c53 : x107_49 = true
                        · subst c53
                          have H1 : ((impl_SpanText.f kj49 t633).bind fun t650 => ((impl_SpanOf.f kj49 t650).bind fun bt651 => (if bt651.2 = true then (if bt651.1 = t633 then (laws_FnAmounts.j4 kj49 t635 t636 t639 t640) else (some false)) else (some false)))) = some r := by rw [if_pos rfl] at H; exact H
                          clear H
                          have H := H1
                          clear H1
                          replace H := Option.bind_eq_some_iff.mp H
                          obtain ⟨t650, A540, H⟩ := H
                          replace H : ((impl_SpanOf.f kj49 t650).bind fun bt651 => (if bt651.2 = true then (if bt651.1 = t633 then (laws_FnAmounts.j4 kj49 t635 t636 t639 t640) else (some false)) else (some false))) = some r := H
                          have A54 := Aside0.mk A540
                          clear A540
                          replace H := Option.bind_eq_some_iff.mp H
                          obtain ⟨⟨t651, t652⟩, A550, H⟩ := H
                          replace H : (if t652 = true then (if t651 = t633 then (laws_FnAmounts.j4 kj49 t635 t636 t639 t640) else (some false)) else (some false)) = some r := H
                          have A55 := Aside0.mk A550
                          clear A550
                          by_cases c56 : t652 = true
                          · subst c56
                            have H1 : (if t651 = t633 then (laws_FnAmounts.j4 kj49 t635 t636 t639 t640) else (some false)) = some r := by rw [if_pos rfl] at H; exact H
                            clear H
                            have H := H1
                            clear H1
                            have HC57 := Aside0.mk H
                            clear H
                            go_upto_if 120 with (first | ((with_reducible refine gate_callee (f := 36) rfl ?_); refine goesL_ (some 110) rfl rfl Try.func36 (by kernel_rfl) rfl #[.int .i64 t633] rfl (by (try simp only [List.map_toArray, List.map_cons, List.map_nil]); first | done | rfl | (simp only [List.length_drop, List.length_take]; rfl)) ?_; (with_reducible refine (impl_SpanText.calls kj49 t633 t650 _ A54.out).mono ?_); rintro e w' ⟨rfl, ⟨nd, rfl⟩⟩; refine ⟨_, rfl, ?_⟩) | ((with_reducible refine gate_callee (f := 47) rfl ?_); refine goesL_ (some 111) rfl rfl Try.func47 (by kernel_rfl) rfl #[.string t650] rfl (by (try simp only [List.map_toArray, List.map_cons, List.map_nil]); first | done | rfl | (simp only [List.length_drop, List.length_take]; rfl)) ?_; (with_reducible refine (impl_SpanOf.calls kj49 t650 t651 true _ A55.out).mono ?_); rintro e w' ⟨rfl, ⟨nd, rfl⟩⟩; refine ⟨_, rfl, ?_⟩))
                            (try simp only [Act.put, List.setIfInBounds_toArray, List.set_cons_zero, List.set_cons_succ])
                            have H := HC57.out
                            clear HC57
                            by_cases c58 : t651 = t633
                            · rw [if_pos c58] at H
                              have c58b0 : (t651 == t633) = true := beq_iff_eq.mpr c58
                              have c58b1 : (t651 != t633) = false := bne_eq_false_iff_eq.mpr c58
                              clear c58
                              (first | rw [c58b0] | rw [c58b1] | (simp only [i64_w, i32_w]; rw [c58b0]) | skip)
                              have H' := Aside0.mk H
                              clear H
                              go_wp2
                              go_meet
                              case rel => exact ⟨_, H', ⟨by have := HJ12.out; have := HJ40.out; have := HJ42.out; have := HJ49.out; first | omega | exact Nat.le_refl _⟩, ⟨by repeat (first | (with_reducible first | exact HB.out | apply below_alloc | apply pw_below_drewN | apply below_drew1) | exact HB.out)⟩⟩
                            · rw [if_neg c58] at H
                              have c58b0 : (t651 == t633) = false := beq_eq_false_iff_ne.mpr c58
                              have c58b1 : (t651 != t633) = true := bne_iff_ne.mpr c58
                              (first | rw [c58b0] | rw [c58b1] | (simp only [i64_w, i32_w]; rw [c58b0]) | skip)
                              obtain rfl := Option.some.inj H
                              go_wp2
                              go_ret
                              exact ⟨by first | rfl | (simp [errW_none, errW_some] <;> rfl) | (simp [*, errW_none, errW_some] <;> rfl), by repeat (first | (with_reducible first | exact HB.out | apply below_alloc | apply pw_below_drewN | apply below_drew1) | exact HB.out)⟩
                          · replace c56 := Bool.eq_false_iff.mpr c56
                            subst c56
                            have H1 : (some false) = some r := by rw [if_neg (show ¬ (false = true) by decide)] at H; exact H
                            clear H
                            have H := H1
                            clear H1
                            obtain rfl := Option.some.inj H
                            go_wp2_with (first | ((with_reducible refine gate_callee (f := 36) rfl ?_); refine goesL_ (some 110) rfl rfl Try.func36 (by kernel_rfl) rfl #[.int .i64 t633] rfl (by (try simp only [List.map_toArray, List.map_cons, List.map_nil]); first | done | rfl | (simp only [List.length_drop, List.length_take]; rfl)) ?_; (with_reducible refine (impl_SpanText.calls kj49 t633 t650 _ A54.out).mono ?_); rintro e w' ⟨rfl, ⟨nd, rfl⟩⟩; refine ⟨_, rfl, ?_⟩) | ((with_reducible refine gate_callee (f := 47) rfl ?_); refine goesL_ (some 111) rfl rfl Try.func47 (by kernel_rfl) rfl #[.string t650] rfl (by (try simp only [List.map_toArray, List.map_cons, List.map_nil]); first | done | rfl | (simp only [List.length_drop, List.length_take]; rfl)) ?_; (with_reducible refine (impl_SpanOf.calls kj49 t650 t651 false _ A55.out).mono ?_); rintro e w' ⟨rfl, ⟨nd, rfl⟩⟩; refine ⟨_, rfl, ?_⟩))
                            go_ret
                            exact ⟨by first | rfl | (simp [errW_none, errW_some] <;> rfl) | (simp [*, errW_none, errW_some] <;> rfl), by repeat (first | (with_reducible first | exact HB.out | apply below_alloc | apply pw_below_drewN | apply below_drew1) | exact HB.out)⟩
                        · replace c53 := Bool.eq_false_iff.mpr c53
                          subst c53
                          have H1 : (laws_FnAmounts.j4 kj49 t635 t636 t639 t640) = some r := by rw [if_neg (show ¬ (false = true) by decide)] at H; exact H
                          clear H
                          have H := H1
                          clear H1
                          have H' := Aside0.mk H
                          clear H
                          go_wp2
                          go_meet
                          case rel => exact ⟨_, H', ⟨by have := HJ12.out; have := HJ40.out; have := HJ42.out; have := HJ49.out; first | omega | exact Nat.le_refl _⟩, ⟨by repeat (first | (with_reducible first | exact HB.out | apply below_alloc | apply pw_below_drewN | apply below_drew1) | exact HB.out)⟩⟩
                      case rest =>
                        clear HC52
                        try clear c1
                        try clear c2
                        try clear p2
                        try clear c3
                        try clear c4
                        try clear c5
                        try clear c6
                        try clear c17
                        try clear c22
                        try clear c22b0
                        try clear c22b1
                        try clear c25
                        try clear c25b0
                        try clear c25b1
                        try clear c26
                        try clear c26b0
                        try clear c26b1
                        try clear c27
                        try clear c27b0
                        try clear c27b1
                        try clear c27b2
                        try clear c30
                        try clear c30b0
                        try clear c30b1
                        try clear c36
                        try clear c37
                        try clear c38
                        try clear c40
                        try clear c42
                        try clear c42b0
                        try clear c44
                        try clear c46
                        try clear c47
                        try clear c48
                        try clear c49
                        try clear c49b0
                        try clear c49b1
                        try clear c50
                        try clear c51
                        try clear c51b0
                        try clear c53
                        try clear c56
                        try clear c58
                        try clear c58b0
                        try clear c58b1
                        try clear p2
                        obtain ⟨kq, HA, HJ51, HB⟩ := hcut
                        cases kq with
                        | zero => exact absurd HA.out (by simp [laws_FnAmounts.j4])
                        | succ kj51 =>
                          have H := HA.out
                          clear HA
                          simp only [laws_FnAmounts.j4] at H
                          by_cases c59 : t636 = true
                          · subst c59
                            have H1 : ((impl_AmountText.f kj51 t635).bind fun t653 => ((impl_AmountOf.f kj51 t653).bind fun bt654 => (if bt654.2 = true then (some (bt654.1 == t635)) else (some false)))) = some r := by rw [if_pos rfl] at H; exact H
                            clear H
                            have H := H1
                            clear H1
                            replace H := Option.bind_eq_some_iff.mp H
                            obtain ⟨t653, A600, H⟩ := H
                            replace H : ((impl_AmountOf.f kj51 t653).bind fun bt654 => (if bt654.2 = true then (some (bt654.1 == t635)) else (some false))) = some r := H
                            have A60 := Aside0.mk A600
                            clear A600
                            replace H := Option.bind_eq_some_iff.mp H
                            obtain ⟨⟨t654, t655⟩, A610, H⟩ := H
                            replace H : (if t655 = true then (some (t654 == t635)) else (some false)) = some r := H
                            have A61 := Aside0.mk A610
                            clear A610
                            by_cases c62 : t655 = true
                            · subst c62
                              have H1 : (some (t654 == t635)) = some r := by rw [if_pos rfl] at H; exact H
                              clear H
                              have H := H1
                              clear H1
                              obtain rfl := Option.some.inj H
                              go_wp2_with (first | ((with_reducible refine gate_callee (f := 38) rfl ?_); refine goesL_ (some 124) rfl rfl Try.func38 (by kernel_rfl) rfl #[.int .i64 t635] rfl (by (try simp only [List.map_toArray, List.map_cons, List.map_nil]); first | done | rfl | (simp only [List.length_drop, List.length_take]; rfl)) ?_; (with_reducible refine (impl_AmountText.calls kj51 t635 t653 _ A60.out).mono ?_); rintro e w' ⟨rfl, ⟨nd, rfl⟩⟩; refine ⟨_, rfl, ?_⟩) | ((with_reducible refine gate_callee (f := 49) rfl ?_); refine goesL_ (some 125) rfl rfl Try.func49 (by kernel_rfl) rfl #[.string t653] rfl (by (try simp only [List.map_toArray, List.map_cons, List.map_nil]); first | done | rfl | (simp only [List.length_drop, List.length_take]; rfl)) ?_; (with_reducible refine (impl_AmountOf.calls kj51 t653 t654 true _ A61.out).mono ?_); rintro e w' ⟨rfl, ⟨nd, rfl⟩⟩; refine ⟨_, rfl, ?_⟩))
                              go_ret
                              exact ⟨by first | rfl | (simp [errW_none, errW_some] <;> rfl) | (simp [*, errW_none, errW_some] <;> rfl), by repeat (first | (with_reducible first | exact HB.out | apply below_alloc | apply pw_below_drewN | apply below_drew1) | exact HB.out)⟩
                            · replace c62 := Bool.eq_false_iff.mpr c62
                              subst c62
                              have H1 : (some false) = some r := by rw [if_neg (show ¬ (false = true) by decide)] at H; exact H
                              clear H
                              have H := H1
                              clear H1
                              obtain rfl := Option.some.inj H
                              go_wp2_with (first | ((with_reducible refine gate_callee (f := 38) rfl ?_); refine goesL_ (some 124) rfl rfl Try.func38 (by kernel_rfl) rfl #[.int .i64 t635] rfl (by (try simp only [List.map_toArray, List.map_cons, List.map_nil]); first | done | rfl | (simp only [List.length_drop, List.length_take]; rfl)) ?_; (with_reducible refine (impl_AmountText.calls kj51 t635 t653 _ A60.out).mono ?_); rintro e w' ⟨rfl, ⟨nd, rfl⟩⟩; refine ⟨_, rfl, ?_⟩) | ((with_reducible refine gate_callee (f := 49) rfl ?_); refine goesL_ (some 125) rfl rfl Try.func49 (by kernel_rfl) rfl #[.string t653] rfl (by (try simp only [List.map_toArray, List.map_cons, List.map_nil]); first | done | rfl | (simp only [List.length_drop, List.length_take]; rfl)) ?_; (with_reducible refine (impl_AmountOf.calls kj51 t653 t654 false _ A61.out).mono ?_); rintro e w' ⟨rfl, ⟨nd, rfl⟩⟩; refine ⟨_, rfl, ?_⟩))
                              go_ret
                              exact ⟨by first | rfl | (simp [errW_none, errW_some] <;> rfl) | (simp [*, errW_none, errW_some] <;> rfl), by repeat (first | (with_reducible first | exact HB.out | apply below_alloc | apply pw_below_drewN | apply below_drew1) | exact HB.out)⟩
                          · replace c59 := Bool.eq_false_iff.mpr c59
                            subst c59
                            have H1 : (if t635 = 0 then (if t640 = true then (some true) else (some (t639 == 0))) else (some false)) = some r := by rw [if_neg (show ¬ (false = true) by decide)] at H; exact H
                            clear H
                            have H := H1
                            clear H1
                            by_cases c63 : t635 = 0
                            · rw [if_pos c63] at H
                              have c63b0 : (t635 == 0) = true := beq_iff_eq.mpr c63
                              have c63b1 : (t635 != 0) = false := bne_eq_false_iff_eq.mpr c63
                              clear c63
                              by_cases c64 : t640 = true
                              · subst c64
                                have H1 : (some true) = some r := by rw [if_pos rfl] at H; exact H
                                clear H
                                have H := H1
                                clear H1
                                obtain rfl := Option.some.inj H
                                go_wp2
                                go_ret
                                exact ⟨by first | rfl | (simp [errW_none, errW_some] <;> rfl) | (simp [*, errW_none, errW_some] <;> rfl), by repeat (first | (with_reducible first | exact HB.out | apply below_alloc | apply pw_below_drewN | apply below_drew1) | exact HB.out)⟩
                              · replace c64 := Bool.eq_false_iff.mpr c64
                                subst c64
                                have H1 : (some (t639 == 0)) = some r := by rw [if_neg (show ¬ (false = true) by decide)] at H; exact H
                                clear H
                                have H := H1
                                clear H1
                                obtain rfl := Option.some.inj H
                                go_wp2
                                go_ret
                                exact ⟨by first | rfl | (simp [errW_none, errW_some] <;> rfl) | (simp [*, errW_none, errW_some] <;> rfl), by repeat (first | (with_reducible first | exact HB.out | apply below_alloc | apply pw_below_drewN | apply below_drew1) | exact HB.out)⟩
                            · rw [if_neg c63] at H
                              have c63b0 : (t635 == 0) = false := beq_eq_false_iff_ne.mpr c63
                              have c63b1 : (t635 != 0) = true := bne_iff_ne.mpr c63
                              obtain rfl := Option.some.inj H
                              go_wp2
                              go_ret
                              exact ⟨by first | rfl | (simp [errW_none, errW_some] <;> rfl) | (simp [*, errW_none, errW_some] <;> rfl), by repeat (first | (with_reducible first | exact HB.out | apply below_alloc | apply pw_below_drewN | apply below_drew1) | exact HB.out)⟩

end Go.Proofs.Ytjkanclhlnojhaa.P
