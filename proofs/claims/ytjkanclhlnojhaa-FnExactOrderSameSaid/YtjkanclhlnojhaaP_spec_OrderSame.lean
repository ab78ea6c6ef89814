-- Made by drive.py (a program of this session) over the kit's print; not written line by line by a hand.
import Derived.Test.YtjkanclhlnojhaaP0
import Derived.Test.YtjkanclhlnojhaaP_eq25
import Derived.Test.YtjkanclhlnojhaaP_eq35
import Derived.Test.YtjkanclhlnojhaaP_eq94
namespace Go.Proofs.Ytjkanclhlnojhaa.P
open Go.RowKit Go.Proofs.YtjkanclhlnojhaaW.PrintWords Go.Proofs.YtjkanclhlnojhaaW.PrintLast Go.Proofs.YtjkanclhlnojhaaW.PrintMore
attribute [local go_sem] max2_int min2_int max_two min_two max_three min_three max_four min_four   -- for this text's walks alone
set_option linter.unusedVariables false
set_option linter.unusedSimpArgs false

attribute [local go_sem high] eqA25 eqA35 eqA94
/-! ### spec_OrderSame: function 60 -/
mutual
def spec_OrderSame.j0 : Nat → Bool → ByteArray → ByteArray → Int → Int → List (S35) → Int → Int → Int → Int → List (S94) → ByteArray → ByteArray → Int → Int → List (S35) → Int → Int → Int → Int → List (S94) → Option (Bool)
  | 0, _, _, _, _, _, _, _, _, _, _, _, _, _, _, _, _, _, _, _, _, _ => none
  | k + 1, x57, x448000, x448001, x448002, x448003, x448004, x448005, x448006, x448007, x448008, x448009, x449000, x449001, x449002, x449003, x449004, x449005, x449006, x449007, x449008, x449009 => if x57 = true then (some false) else (spec_OrderSame.l0 k 0 x448000 x448001 x448002 x448003 x448004 x448005 x448006 x448007 x448008 x448009 x449000 x449001 x449002 x449003 x449004 x449005 x449006 x449007 x449008 x449009)
def spec_OrderSame.l0 : Nat → Int → ByteArray → ByteArray → Int → Int → List (S35) → Int → Int → Int → Int → List (S94) → ByteArray → ByteArray → Int → Int → List (S35) → Int → Int → Int → Int → List (S94) → Option (Bool)
  | 0, _, _, _, _, _, _, _, _, _, _, _, _, _, _, _, _, _, _, _, _, _ => none
  | k + 1, x5, x448000, x448001, x448002, x448003, x448004, x448005, x448006, x448007, x448008, x448009, x449000, x449001, x449002, x449003, x449004, x449005, x449006, x449007, x449008, x449009 => if x5 < (x448004.length : Int) then (if 0 ≤ x5 then (if x5 < (x449004.length : Int) then (if (!((((rd_T35 x448004 x5).f0).toList) == (((rd_T35 x449004 x5).f0).toList)) || (!(((rd_T35 x448004 x5).f1) == ((rd_T35 x449004 x5).f1)) || (!(((rd_T35 x448004 x5).f2) == ((rd_T35 x449004 x5).f2))))) = true then (some false) else (spec_OrderSame.l0 k (wrap64 (x5 + 1)) x448000 x448001 x448002 x448003 x448004 x448005 x448006 x448007 x448008 x448009 x449000 x449001 x449002 x449003 x449004 x449005 x449006 x449007 x449008 x449009)) else (none)) else (none)) else (spec_OrderSame.l1 k 0 x448000 x448001 x448002 x448003 x448004 x448005 x448006 x448007 x448008 x448009 x449000 x449001 x449002 x449003 x449004 x449005 x449006 x449007 x449008 x449009)
def spec_OrderSame.l1 : Nat → Int → ByteArray → ByteArray → Int → Int → List (S35) → Int → Int → Int → Int → List (S94) → ByteArray → ByteArray → Int → Int → List (S35) → Int → Int → Int → Int → List (S94) → Option (Bool)
  | 0, _, _, _, _, _, _, _, _, _, _, _, _, _, _, _, _, _, _, _, _, _ => none
  | k + 1, x6, x448000, x448001, x448002, x448003, x448004, x448005, x448006, x448007, x448008, x448009, x449000, x449001, x449002, x449003, x449004, x449005, x449006, x449007, x449008, x449009 => if x6 < (x448009.length : Int) then (if 0 ≤ x6 then (if x6 < (x449009.length : Int) then (if (!((((rd_T94 x448009 x6).f0).toList) == (((rd_T94 x449009 x6).f0).toList)) || (!((((rd_T94 x448009 x6).f1).toList) == (((rd_T94 x449009 x6).f1).toList)))) = true then (some false) else (spec_OrderSame.l1 k (wrap64 (x6 + 1)) x448000 x448001 x448002 x448003 x448004 x448005 x448006 x448007 x448008 x448009 x449000 x449001 x449002 x449003 x449004 x449005 x449006 x449007 x449008 x449009)) else (none)) else (none)) else (some true)
end
def spec_OrderSame.f (k : Nat) (a0_0 : ByteArray) (a0_1 : ByteArray) (a0_2 : Int) (a0_3 : Int) (l0_4 : List (S35)) (a0_5 : Int) (a0_6 : Int) (a0_7 : Int) (a0_8 : Int) (l0_9 : List (S94)) (a1_0 : ByteArray) (a1_1 : ByteArray) (a1_2 : Int) (a1_3 : Int) (l1_4 : List (S35)) (a1_5 : Int) (a1_6 : Int) (a1_7 : Int) (a1_8 : Int) (l1_9 : List (S94)) : Option (Bool) := if a0_0.toList = a1_0.toList then (if a0_1.toList = a1_1.toList then (if a0_2 = a1_2 then (if a0_3 = a1_3 then (if (!(a0_5 == a1_5) || (!(a0_6 == a1_6) || (!(a0_7 == a1_7) || (!(a0_8 == a1_8))))) = true then (spec_OrderSame.j0 k true a0_0 a0_1 a0_2 a0_3 l0_4 a0_5 a0_6 a0_7 a0_8 l0_9 a1_0 a1_1 a1_2 a1_3 l1_4 a1_5 a1_6 a1_7 a1_8 l1_9) else (if (l0_4.length : Int) = (l1_4.length : Int) then (spec_OrderSame.j0 k ((l0_9.length : Int) != (l1_9.length : Int)) a0_0 a0_1 a0_2 a0_3 l0_4 a0_5 a0_6 a0_7 a0_8 l0_9 a1_0 a1_1 a1_2 a1_3 l1_4 a1_5 a1_6 a1_7 a1_8 l1_9) else (spec_OrderSame.j0 k true a0_0 a0_1 a0_2 a0_3 l0_4 a0_5 a0_6 a0_7 a0_8 l0_9 a1_0 a1_1 a1_2 a1_3 l1_4 a1_5 a1_6 a1_7 a1_8 l1_9))) else (spec_OrderSame.j0 k true a0_0 a0_1 a0_2 a0_3 l0_4 a0_5 a0_6 a0_7 a0_8 l0_9 a1_0 a1_1 a1_2 a1_3 l1_4 a1_5 a1_6 a1_7 a1_8 l1_9)) else (spec_OrderSame.j0 k true a0_0 a0_1 a0_2 a0_3 l0_4 a0_5 a0_6 a0_7 a0_8 l0_9 a1_0 a1_1 a1_2 a1_3 l1_4 a1_5 a1_6 a1_7 a1_8 l1_9)) else (spec_OrderSame.j0 k true a0_0 a0_1 a0_2 a0_3 l0_4 a0_5 a0_6 a0_7 a0_8 l0_9 a1_0 a1_1 a1_2 a1_3 l1_4 a1_5 a1_6 a1_7 a1_8 l1_9)) else (spec_OrderSame.j0 k true a0_0 a0_1 a0_2 a0_3 l0_4 a0_5 a0_6 a0_7 a0_8 l0_9 a1_0 a1_1 a1_2 a1_3 l1_4 a1_5 a1_6 a1_7 a1_8 l1_9)
theorem spec_OrderSame.mono_l : ∀ k, (∀ y0 y1 y2 y3 y4 y5 y6 y7 y8 y9 y10 y11 y12 y13 y14 y15 y16 y17 y18 y19 y20, LeO (spec_OrderSame.j0 k y0 y1 y2 y3 y4 y5 y6 y7 y8 y9 y10 y11 y12 y13 y14 y15 y16 y17 y18 y19 y20) (spec_OrderSame.j0 (k + 1) y0 y1 y2 y3 y4 y5 y6 y7 y8 y9 y10 y11 y12 y13 y14 y15 y16 y17 y18 y19 y20)) ∧ (∀ y0 y1 y2 y3 y4 y5 y6 y7 y8 y9 y10 y11 y12 y13 y14 y15 y16 y17 y18 y19 y20, LeO (spec_OrderSame.l0 k y0 y1 y2 y3 y4 y5 y6 y7 y8 y9 y10 y11 y12 y13 y14 y15 y16 y17 y18 y19 y20) (spec_OrderSame.l0 (k + 1) y0 y1 y2 y3 y4 y5 y6 y7 y8 y9 y10 y11 y12 y13 y14 y15 y16 y17 y18 y19 y20)) ∧ (∀ y0 y1 y2 y3 y4 y5 y6 y7 y8 y9 y10 y11 y12 y13 y14 y15 y16 y17 y18 y19 y20, LeO (spec_OrderSame.l1 k y0 y1 y2 y3 y4 y5 y6 y7 y8 y9 y10 y11 y12 y13 y14 y15 y16 y17 y18 y19 y20) (spec_OrderSame.l1 (k + 1) y0 y1 y2 y3 y4 y5 y6 y7 y8 y9 y10 y11 y12 y13 y14 y15 y16 y17 y18 y19 y20))
  | 0 => ⟨fun _ _ _ _ _ _ _ _ _ _ _ _ _ _ _ _ _ _ _ _ _ r h => by simp [spec_OrderSame.j0] at h, fun _ _ _ _ _ _ _ _ _ _ _ _ _ _ _ _ _ _ _ _ _ r h => by simp [spec_OrderSame.l0] at h, fun _ _ _ _ _ _ _ _ _ _ _ _ _ _ _ _ _ _ _ _ _ r h => by simp [spec_OrderSame.l1] at h⟩
  | k + 1 => by
    obtain ⟨ih0, ih1, ih2⟩ := spec_OrderSame.mono_l k
    refine ⟨?_, ?_, ?_⟩
    · intro y0 y1 y2 y3 y4 y5 y6 y7 y8 y9 y10 y11 y12 y13 y14 y15 y16 y17 y18 y19 y20
      unfold spec_OrderSame.j0
      repeat' first
      | (with_reducible exact ih0 _ _ _ _ _ _ _ _ _ _ _ _ _ _ _ _ _ _ _ _ _)
      | (with_reducible exact ih1 _ _ _ _ _ _ _ _ _ _ _ _ _ _ _ _ _ _ _ _ _)
      | (with_reducible exact ih2 _ _ _ _ _ _ _ _ _ _ _ _ _ _ _ _ _ _ _ _ _)
      | (with_reducible exact LeO.refl _)
      | (with_reducible exact LeO.none _)
      | (with_reducible refine LeO.ite ?_ ?_)
      | (with_reducible refine LeO.bind ?_ (fun _ => ?_))
      | exact ih0 _ _ _ _ _ _ _ _ _ _ _ _ _ _ _ _ _ _ _ _ _
      | exact ih1 _ _ _ _ _ _ _ _ _ _ _ _ _ _ _ _ _ _ _ _ _
      | exact ih2 _ _ _ _ _ _ _ _ _ _ _ _ _ _ _ _ _ _ _ _ _
      | exact LeO.none _
      | refine LeO.ite ?_ ?_
      | refine LeO.bind ?_ (fun _ => ?_)
    · intro y0 y1 y2 y3 y4 y5 y6 y7 y8 y9 y10 y11 y12 y13 y14 y15 y16 y17 y18 y19 y20
      unfold spec_OrderSame.l0
      repeat' first
      | (with_reducible exact ih0 _ _ _ _ _ _ _ _ _ _ _ _ _ _ _ _ _ _ _ _ _)
      | (with_reducible exact ih1 _ _ _ _ _ _ _ _ _ _ _ _ _ _ _ _ _ _ _ _ _)
      | (with_reducible exact ih2 _ _ _ _ _ _ _ _ _ _ _ _ _ _ _ _ _ _ _ _ _)
      | (with_reducible exact LeO.refl _)
      | (with_reducible exact LeO.none _)
      | (with_reducible refine LeO.ite ?_ ?_)
      | (with_reducible refine LeO.bind ?_ (fun _ => ?_))
      | exact ih0 _ _ _ _ _ _ _ _ _ _ _ _ _ _ _ _ _ _ _ _ _
      | exact ih1 _ _ _ _ _ _ _ _ _ _ _ _ _ _ _ _ _ _ _ _ _
      | exact ih2 _ _ _ _ _ _ _ _ _ _ _ _ _ _ _ _ _ _ _ _ _
      | exact LeO.none _
      | refine LeO.ite ?_ ?_
      | refine LeO.bind ?_ (fun _ => ?_)
    · intro y0 y1 y2 y3 y4 y5 y6 y7 y8 y9 y10 y11 y12 y13 y14 y15 y16 y17 y18 y19 y20
      unfold spec_OrderSame.l1
      repeat' first
      | (with_reducible exact ih0 _ _ _ _ _ _ _ _ _ _ _ _ _ _ _ _ _ _ _ _ _)
      | (with_reducible exact ih1 _ _ _ _ _ _ _ _ _ _ _ _ _ _ _ _ _ _ _ _ _)
      | (with_reducible exact ih2 _ _ _ _ _ _ _ _ _ _ _ _ _ _ _ _ _ _ _ _ _)
      | (with_reducible exact LeO.refl _)
      | (with_reducible exact LeO.none _)
      | (with_reducible refine LeO.ite ?_ ?_)
      | (with_reducible refine LeO.bind ?_ (fun _ => ?_))
      | exact ih0 _ _ _ _ _ _ _ _ _ _ _ _ _ _ _ _ _ _ _ _ _
      | exact ih1 _ _ _ _ _ _ _ _ _ _ _ _ _ _ _ _ _ _ _ _ _
      | exact ih2 _ _ _ _ _ _ _ _ _ _ _ _ _ _ _ _ _ _ _ _ _
      | exact LeO.none _
      | refine LeO.ite ?_ ?_
      | refine LeO.bind ?_ (fun _ => ?_)
theorem spec_OrderSame.mono : ∀ a0 a1 a2 a3 a4 a5 a6 a7 a8 a9 a10 a11 a12 a13 a14 a15 a16 a17 a18 a19 k, LeO (spec_OrderSame.f k a0 a1 a2 a3 a4 a5 a6 a7 a8 a9 a10 a11 a12 a13 a14 a15 a16 a17 a18 a19) (spec_OrderSame.f (k + 1) a0 a1 a2 a3 a4 a5 a6 a7 a8 a9 a10 a11 a12 a13 a14 a15 a16 a17 a18 a19) := by
  intro a0 a1 a2 a3 a4 a5 a6 a7 a8 a9 a10 a11 a12 a13 a14 a15 a16 a17 a18 a19 k
  obtain ⟨ih0, ih1, ih2⟩ := spec_OrderSame.mono_l k
  unfold spec_OrderSame.f
  repeat' first
      | (with_reducible exact ih0 _ _ _ _ _ _ _ _ _ _ _ _ _ _ _ _ _ _ _ _ _)
      | (with_reducible exact ih1 _ _ _ _ _ _ _ _ _ _ _ _ _ _ _ _ _ _ _ _ _)
      | (with_reducible exact ih2 _ _ _ _ _ _ _ _ _ _ _ _ _ _ _ _ _ _ _ _ _)
      | (with_reducible exact LeO.refl _)
      | (with_reducible exact LeO.none _)
      | (with_reducible refine LeO.ite ?_ ?_)
      | (with_reducible refine LeO.bind ?_ (fun _ => ?_))
      | exact ih0 _ _ _ _ _ _ _ _ _ _ _ _ _ _ _ _ _ _ _ _ _
      | exact ih1 _ _ _ _ _ _ _ _ _ _ _ _ _ _ _ _ _ _ _ _ _
      | exact ih2 _ _ _ _ _ _ _ _ _ _ _ _ _ _ _ _ _ _ _ _ _
      | exact LeO.none _
      | refine LeO.ite ?_ ?_
      | refine LeO.bind ?_ (fun _ => ?_)
set_option maxHeartbeats 8000000 in
set_option maxRecDepth 100000 in
theorem spec_OrderSame.calls (k : Nat) (a0_0 : ByteArray) (a0_1 : ByteArray) (a0_2 : Int) (a0_3 : Int) (A0_4 : Option Addr) (c0_4 : Nat) (l0_4 : List (S35)) (a0_5 : Int) (a0_6 : Int) (a0_7 : Int) (a0_8 : Int) (A0_9 : Option Addr) (c0_9 : Nat) (l0_9 : List (S94)) (a1_0 : ByteArray) (a1_1 : ByteArray) (a1_2 : Int) (a1_3 : Int) (A1_4 : Option Addr) (c1_4 : Nat) (l1_4 : List (S35)) (a1_5 : Int) (a1_6 : Int) (a1_7 : Int) (a1_8 : Int) (A1_9 : Option Addr) (c1_9 : Nat) (l1_9 : List (S94)) (r : Bool) (w : World) (hr0_4 : Kd.C k35 w A0_4 l0_4.length l0_4) (hc0_4 : l0_4.length ≤ c0_4) (hr0_9 : Kd.C k94 w A0_9 l0_9.length l0_9) (hc0_9 : l0_9.length ≤ c0_9) (hr1_4 : Kd.C k35 w A1_4 l1_4.length l1_4) (hc1_4 : l1_4.length ≤ c1_4) (hr1_9 : Kd.C k94 w A1_9 l1_9.length l1_9) (hc1_9 : l1_9.length ≤ c1_9) (h : spec_OrderSame.f k a0_0 a0_1 a0_2 a0_3 l0_4 a0_5 a0_6 a0_7 a0_8 l0_9 a1_0 a1_1 a1_2 a1_3 l1_4 a1_5 a1_6 a1_7 a1_8 l1_9 = some r) :
    Calls Try.prog 60 #[.agg #[.string a0_0, .string a0_1, .int .i64 a0_2, .int .i64 a0_3, .slice A0_4 l0_4.length c0_4, .int .i64 a0_5, .int .i64 a0_6, .int .i64 a0_7, .int .i64 a0_8, .slice A0_9 l0_9.length c0_9], .agg #[.string a1_0, .string a1_1, .int .i64 a1_2, .int .i64 a1_3, .slice A1_4 l1_4.length c1_4, .int .i64 a1_5, .int .i64 a1_6, .int .i64 a1_7, .int .i64 a1_8, .slice A1_9 l1_9.length c1_9]] w fun e w' => e = .returned (.bool r) ∧ Below w.heap.size w w' := by
  have hu65 := Try.underlying65
  have hu25 := Try.underlying25
  have hu35 := Try.underlying35
  have hu94 := Try.underlying94
  have HR0_4 := Aside0.mk hr0_4
  have HC0_4 := Aside0.mk hc0_4
  clear hr0_4 hc0_4
  have HR0_9 := Aside0.mk hr0_9
  have HC0_9 := Aside0.mk hc0_9
  clear hr0_9 hc0_9
  have HR1_4 := Aside0.mk hr1_4
  have HC1_4 := Aside0.mk hc1_4
  clear hr1_4 hc1_4
  have HR1_9 := Aside0.mk hr1_9
  have HC1_9 := Aside0.mk hc1_9
  clear hr1_9 hc1_9
  have HB := Aside0.mk (Below.refl w.heap.size w)
  have H : (if a0_0.toList = a1_0.toList then (if a0_1.toList = a1_1.toList then (if a0_2 = a1_2 then (if a0_3 = a1_3 then (if (!(a0_5 == a1_5) || (!(a0_6 == a1_6) || (!(a0_7 == a1_7) || (!(a0_8 == a1_8))))) = true then (spec_OrderSame.j0 k true a0_0 a0_1 a0_2 a0_3 l0_4 a0_5 a0_6 a0_7 a0_8 l0_9 a1_0 a1_1 a1_2 a1_3 l1_4 a1_5 a1_6 a1_7 a1_8 l1_9) else (if (l0_4.length : Int) = (l1_4.length : Int) then (spec_OrderSame.j0 k ((l0_9.length : Int) != (l1_9.length : Int)) a0_0 a0_1 a0_2 a0_3 l0_4 a0_5 a0_6 a0_7 a0_8 l0_9 a1_0 a1_1 a1_2 a1_3 l1_4 a1_5 a1_6 a1_7 a1_8 l1_9) else (spec_OrderSame.j0 k true a0_0 a0_1 a0_2 a0_3 l0_4 a0_5 a0_6 a0_7 a0_8 l0_9 a1_0 a1_1 a1_2 a1_3 l1_4 a1_5 a1_6 a1_7 a1_8 l1_9))) else (spec_OrderSame.j0 k true a0_0 a0_1 a0_2 a0_3 l0_4 a0_5 a0_6 a0_7 a0_8 l0_9 a1_0 a1_1 a1_2 a1_3 l1_4 a1_5 a1_6 a1_7 a1_8 l1_9)) else (spec_OrderSame.j0 k true a0_0 a0_1 a0_2 a0_3 l0_4 a0_5 a0_6 a0_7 a0_8 l0_9 a1_0 a1_1 a1_2 a1_3 l1_4 a1_5 a1_6 a1_7 a1_8 l1_9)) else (spec_OrderSame.j0 k true a0_0 a0_1 a0_2 a0_3 l0_4 a0_5 a0_6 a0_7 a0_8 l0_9 a1_0 a1_1 a1_2 a1_3 l1_4 a1_5 a1_6 a1_7 a1_8 l1_9)) else (spec_OrderSame.j0 k true a0_0 a0_1 a0_2 a0_3 l0_4 a0_5 a0_6 a0_7 a0_8 l0_9 a1_0 a1_1 a1_2 a1_3 l1_4 a1_5 a1_6 a1_7 a1_8 l1_9)) = some r := h
  clear h
  have HC3 := Aside0.mk H
  clear H
  go_enter Try.func60, Try.ntmps60
  go_upto_region 1 with (first | ((with_reducible refine gate_dst (N := 2) rfl ?_); (try (refine gate_guard (by rfl) ?_; dsimp only)); refine box_event ?hg (N := 2) ?hd (cs := #[.string a0_0, .string a0_1, .int .i64 a0_2, .int .i64 a0_3, .slice A0_4 l0_4.length c0_4, .int .i64 a0_5, .int .i64 a0_6, .int .i64 a0_7, .int .i64 a0_8, .slice A0_9 l0_9.length c0_9]) (t := 65) ?hr ?_; (case hd => rfl); (case hg => rfl); (case hr => first | (go_simp; done) | (go_simp; rfl)); intro gb447 hg w4 hbox hb; have n0_ := Aside0.mk (below_step (by repeat (first | (with_reducible first | exact HB.out | apply below_alloc | apply pw_below_drewN | apply below_drew1) | exact HB.out)) hb); have n1_ := Aside0.mk (hbox); have n2_ := Aside0.mk ((by rw [hg]; exact (below_size (by repeat (first | (with_reducible first | exact HB.out | apply below_alloc | apply pw_below_drewN | apply below_drew1) | exact HB.out))) : w.heap.size ≤ gb447)); have n3_ := Aside0.mk ((by rw [hg]; exact (below_size (by repeat (first | (with_reducible first | exact HB.out | apply below_alloc | apply pw_below_drewN | apply below_drew1) | exact HB.out))) : w.heap.size ≤ gb447)); clear HB; have HB := n0_; have BK447 := n1_; have GW447 := n2_; have GE447 := n3_; clear n0_ n1_ n2_ n3_; clear hb hbox hg) | ((with_reducible refine gate_dst (N := 3) rfl ?_); (try (refine gate_guard (by rfl) ?_; dsimp only)); refine box_event ?hg (N := 3) ?hd (cs := #[.string a1_0, .string a1_1, .int .i64 a1_2, .int .i64 a1_3, .slice A1_4 l1_4.length c1_4, .int .i64 a1_5, .int .i64 a1_6, .int .i64 a1_7, .int .i64 a1_8, .slice A1_9 l1_9.length c1_9]) (t := 65) ?hr ?_; (case hd => rfl); (case hg => rfl); (case hr => first | (go_simp; done) | (go_simp; rfl)); intro gb448 hg w5 hbox hb; have n0_ := Aside0.mk (blk_below (g := gb447) (o := .cells #[.string a0_0, .string a0_1, .int .i64 a0_2, .int .i64 a0_3, .slice A0_4 l0_4.length c0_4, .int .i64 a0_5, .int .i64 a0_6, .int .i64 a0_7, .int .i64 a0_8, .slice A0_9 l0_9.length c0_9] 65 (0, 0)) (by (with_reducible repeat (first | refine blk_drewN ?_ _ | refine blk_drew ?_ | refine blk_alloc ?_ _)); exact BK447.out) hb); have n1_ := Aside0.mk (below_step (by repeat (first | (with_reducible first | exact HB.out | apply below_alloc | apply pw_below_drewN | apply below_drew1 | refine below_set ?_ GE447.out) | exact HB.out)) hb); have n2_ := Aside0.mk (hbox); have n3_ := Aside0.mk ((by rw [hg]; exact (below_size (by repeat (first | (with_reducible first | exact HB.out | apply below_alloc | apply pw_below_drewN | apply below_drew1 | refine below_set ?_ GE447.out) | exact HB.out))) : w.heap.size ≤ gb448)); have n4_ := Aside0.mk ((by rw [hg]; exact (below_size (by repeat (first | (with_reducible first | exact HB.out | apply below_alloc | apply pw_below_drewN | apply below_drew1 | refine below_set ?_ GE447.out) | exact HB.out))) : w.heap.size ≤ gb448)); have n5_ := Aside0.mk ((by rw [hg]; exact Nat.ne_of_lt (blk_lt (g := gb447) (o := .cells #[.string a0_0, .string a0_1, .int .i64 a0_2, .int .i64 a0_3, .slice A0_4 l0_4.length c0_4, .int .i64 a0_5, .int .i64 a0_6, .int .i64 a0_7, .int .i64 a0_8, .slice A0_9 l0_9.length c0_9] 65 (0, 0)) (by (with_reducible repeat (first | refine blk_drewN ?_ _ | refine blk_drew ?_ | refine blk_alloc ?_ _)); exact BK447.out)) : gb447 ≠ gb448)); have n6_ := Aside0.mk ((by rw [hg]; exact Nat.ne_of_gt (blk_lt (g := gb447) (o := .cells #[.string a0_0, .string a0_1, .int .i64 a0_2, .int .i64 a0_3, .slice A0_4 l0_4.length c0_4, .int .i64 a0_5, .int .i64 a0_6, .int .i64 a0_7, .int .i64 a0_8, .slice A0_9 l0_9.length c0_9] 65 (0, 0)) (by (with_reducible repeat (first | refine blk_drewN ?_ _ | refine blk_drew ?_ | refine blk_alloc ?_ _)); exact BK447.out)) : gb448 ≠ gb447)); clear BK447; clear HB; have BK447 := n0_; have HB := n1_; have BK448 := n2_; have GW448 := n3_; have GE448 := n4_; have NB447_448 := n5_; have NB448_447 := n6_; clear n0_ n1_ n2_ n3_ n4_ n5_ n6_; clear hb hbox hg))
  repeat (go_quiet (first | ((with_reducible refine gate_dst (N := 2) rfl ?_); (try (refine gate_guard (by rfl) ?_; dsimp only)); refine box_event ?hg (N := 2) ?hd (cs := #[.string a0_0, .string a0_1, .int .i64 a0_2, .int .i64 a0_3, .slice A0_4 l0_4.length c0_4, .int .i64 a0_5, .int .i64 a0_6, .int .i64 a0_7, .int .i64 a0_8, .slice A0_9 l0_9.length c0_9]) (t := 65) ?hr ?_; (case hd => rfl); (case hg => rfl); (case hr => first | (go_simp; done) | (go_simp; rfl)); intro gb447 hg w4 hbox hb; have n0_ := Aside0.mk (below_step (by repeat (first | (with_reducible first | exact HB.out | apply below_alloc | apply pw_below_drewN | apply below_drew1) | exact HB.out)) hb); have n1_ := Aside0.mk (hbox); have n2_ := Aside0.mk ((by rw [hg]; exact (below_size (by repeat (first | (with_reducible first | exact HB.out | apply below_alloc | apply pw_below_drewN | apply below_drew1) | exact HB.out))) : w.heap.size ≤ gb447)); have n3_ := Aside0.mk ((by rw [hg]; exact (below_size (by repeat (first | (with_reducible first | exact HB.out | apply below_alloc | apply pw_below_drewN | apply below_drew1) | exact HB.out))) : w.heap.size ≤ gb447)); clear HB; have HB := n0_; have BK447 := n1_; have GW447 := n2_; have GE447 := n3_; clear n0_ n1_ n2_ n3_; clear hb hbox hg) | ((with_reducible refine gate_dst (N := 3) rfl ?_); (try (refine gate_guard (by rfl) ?_; dsimp only)); refine box_event ?hg (N := 3) ?hd (cs := #[.string a1_0, .string a1_1, .int .i64 a1_2, .int .i64 a1_3, .slice A1_4 l1_4.length c1_4, .int .i64 a1_5, .int .i64 a1_6, .int .i64 a1_7, .int .i64 a1_8, .slice A1_9 l1_9.length c1_9]) (t := 65) ?hr ?_; (case hd => rfl); (case hg => rfl); (case hr => first | (go_simp; done) | (go_simp; rfl)); intro gb448 hg w5 hbox hb; have n0_ := Aside0.mk (blk_below (g := gb447) (o := .cells #[.string a0_0, .string a0_1, .int .i64 a0_2, .int .i64 a0_3, .slice A0_4 l0_4.length c0_4, .int .i64 a0_5, .int .i64 a0_6, .int .i64 a0_7, .int .i64 a0_8, .slice A0_9 l0_9.length c0_9] 65 (0, 0)) (by (with_reducible repeat (first | refine blk_drewN ?_ _ | refine blk_drew ?_ | refine blk_alloc ?_ _)); exact BK447.out) hb); have n1_ := Aside0.mk (below_step (by repeat (first | (with_reducible first | exact HB.out | apply below_alloc | apply pw_below_drewN | apply below_drew1 | refine below_set ?_ GE447.out) | exact HB.out)) hb); have n2_ := Aside0.mk (hbox); have n3_ := Aside0.mk ((by rw [hg]; exact (below_size (by repeat (first | (with_reducible first | exact HB.out | apply below_alloc | apply pw_below_drewN | apply below_drew1 | refine below_set ?_ GE447.out) | exact HB.out))) : w.heap.size ≤ gb448)); have n4_ := Aside0.mk ((by rw [hg]; exact (below_size (by repeat (first | (with_reducible first | exact HB.out | apply below_alloc | apply pw_below_drewN | apply below_drew1 | refine below_set ?_ GE447.out) | exact HB.out))) : w.heap.size ≤ gb448)); have n5_ := Aside0.mk ((by rw [hg]; exact Nat.ne_of_lt (blk_lt (g := gb447) (o := .cells #[.string a0_0, .string a0_1, .int .i64 a0_2, .int .i64 a0_3, .slice A0_4 l0_4.length c0_4, .int .i64 a0_5, .int .i64 a0_6, .int .i64 a0_7, .int .i64 a0_8, .slice A0_9 l0_9.length c0_9] 65 (0, 0)) (by (with_reducible repeat (first | refine blk_drewN ?_ _ | refine blk_drew ?_ | refine blk_alloc ?_ _)); exact BK447.out)) : gb447 ≠ gb448)); have n6_ := Aside0.mk ((by rw [hg]; exact Nat.ne_of_gt (blk_lt (g := gb447) (o := .cells #[.string a0_0, .string a0_1, .int .i64 a0_2, .int .i64 a0_3, .slice A0_4 l0_4.length c0_4, .int .i64 a0_5, .int .i64 a0_6, .int .i64 a0_7, .int .i64 a0_8, .slice A0_9 l0_9.length c0_9] 65 (0, 0)) (by (with_reducible repeat (first | refine blk_drewN ?_ _ | refine blk_drew ?_ | refine blk_alloc ?_ _)); exact BK447.out)) : gb448 ≠ gb447)); clear BK447; clear HB; have BK447 := n0_; have HB := n1_; have BK448 := n2_; have GW448 := n3_; have GE448 := n4_; have NB447_448 := n5_; have NB448_447 := n6_; clear n0_ n1_ n2_ n3_ n4_ n5_ n6_; clear hb hbox hg)); go_upto_region 1 with (first | ((with_reducible refine gate_dst (N := 2) rfl ?_); (try (refine gate_guard (by rfl) ?_; dsimp only)); refine box_event ?hg (N := 2) ?hd (cs := #[.string a0_0, .string a0_1, .int .i64 a0_2, .int .i64 a0_3, .slice A0_4 l0_4.length c0_4, .int .i64 a0_5, .int .i64 a0_6, .int .i64 a0_7, .int .i64 a0_8, .slice A0_9 l0_9.length c0_9]) (t := 65) ?hr ?_; (case hd => rfl); (case hg => rfl); (case hr => first | (go_simp; done) | (go_simp; rfl)); intro gb447 hg w4 hbox hb; have n0_ := Aside0.mk (below_step (by repeat (first | (with_reducible first | exact HB.out | apply below_alloc | apply pw_below_drewN | apply below_drew1) | exact HB.out)) hb); have n1_ := Aside0.mk (hbox); have n2_ := Aside0.mk ((by rw [hg]; exact (below_size (by repeat (first | (with_reducible first | exact HB.out | apply below_alloc | apply pw_below_drewN | apply below_drew1) | exact HB.out))) : w.heap.size ≤ gb447)); have n3_ := Aside0.mk ((by rw [hg]; exact (below_size (by repeat (first | (with_reducible first | exact HB.out | apply below_alloc | apply pw_below_drewN | apply below_drew1) | exact HB.out))) : w.heap.size ≤ gb447)); clear HB; have HB := n0_; have BK447 := n1_; have GW447 := n2_; have GE447 := n3_; clear n0_ n1_ n2_ n3_; clear hb hbox hg) | ((with_reducible refine gate_dst (N := 3) rfl ?_); (try (refine gate_guard (by rfl) ?_; dsimp only)); refine box_event ?hg (N := 3) ?hd (cs := #[.string a1_0, .string a1_1, .int .i64 a1_2, .int .i64 a1_3, .slice A1_4 l1_4.length c1_4, .int .i64 a1_5, .int .i64 a1_6, .int .i64 a1_7, .int .i64 a1_8, .slice A1_9 l1_9.length c1_9]) (t := 65) ?hr ?_; (case hd => rfl); (case hg => rfl); (case hr => first | (go_simp; done) | (go_simp; rfl)); intro gb448 hg w5 hbox hb; have n0_ := Aside0.mk (blk_below (g := gb447) (o := .cells #[.string a0_0, .string a0_1, .int .i64 a0_2, .int .i64 a0_3, .slice A0_4 l0_4.length c0_4, .int .i64 a0_5, .int .i64 a0_6, .int .i64 a0_7, .int .i64 a0_8, .slice A0_9 l0_9.length c0_9] 65 (0, 0)) (by (with_reducible repeat (first | refine blk_drewN ?_ _ | refine blk_drew ?_ | refine blk_alloc ?_ _)); exact BK447.out) hb); have n1_ := Aside0.mk (below_step (by repeat (first | (with_reducible first | exact HB.out | apply below_alloc | apply pw_below_drewN | apply below_drew1 | refine below_set ?_ GE447.out) | exact HB.out)) hb); have n2_ := Aside0.mk (hbox); have n3_ := Aside0.mk ((by rw [hg]; exact (below_size (by repeat (first | (with_reducible first | exact HB.out | apply below_alloc | apply pw_below_drewN | apply below_drew1 | refine below_set ?_ GE447.out) | exact HB.out))) : w.heap.size ≤ gb448)); have n4_ := Aside0.mk ((by rw [hg]; exact (below_size (by repeat (first | (with_reducible first | exact HB.out | apply below_alloc | apply pw_below_drewN | apply below_drew1 | refine below_set ?_ GE447.out) | exact HB.out))) : w.heap.size ≤ gb448)); have n5_ := Aside0.mk ((by rw [hg]; exact Nat.ne_of_lt (blk_lt (g := gb447) (o := .cells #[.string a0_0, .string a0_1, .int .i64 a0_2, .int .i64 a0_3, .slice A0_4 l0_4.length c0_4, .int .i64 a0_5, .int .i64 a0_6, .int .i64 a0_7, .int .i64 a0_8, .slice A0_9 l0_9.length c0_9] 65 (0, 0)) (by (with_reducible repeat (first | refine blk_drewN ?_ _ | refine blk_drew ?_ | refine blk_alloc ?_ _)); exact BK447.out)) : gb447 ≠ gb448)); have n6_ := Aside0.mk ((by rw [hg]; exact Nat.ne_of_gt (blk_lt (g := gb447) (o := .cells #[.string a0_0, .string a0_1, .int .i64 a0_2, .int .i64 a0_3, .slice A0_4 l0_4.length c0_4, .int .i64 a0_5, .int .i64 a0_6, .int .i64 a0_7, .int .i64 a0_8, .slice A0_9 l0_9.length c0_9] 65 (0, 0)) (by (with_reducible repeat (first | refine blk_drewN ?_ _ | refine blk_drew ?_ | refine blk_alloc ?_ _)); exact BK447.out)) : gb448 ≠ gb447)); clear BK447; clear HB; have BK447 := n0_; have HB := n1_; have BK448 := n2_; have GW448 := n3_; have GE448 := n4_; have NB447_448 := n5_; have NB448_447 := n6_; clear n0_ n1_ n2_ n3_ n4_ n5_ n6_; clear hb hbox hg)))
  (try simp only [Act.put, List.setIfInBounds_toArray, List.set_cons_zero, List.set_cons_succ])
  go_cut [57] (fun v57 wc => ∃ (kq : Nat) (x57_2 : Bool), v57 = .bool x57_2 ∧ Aside0 (spec_OrderSame.j0 kq x57_2 a0_0 a0_1 a0_2 a0_3 l0_4 a0_5 a0_6 a0_7 a0_8 l0_9 a1_0 a1_1 a1_2 a1_3 l1_4 a1_5 a1_6 a1_7 a1_8 l1_9 = some r) ∧ Aside0 (kq ≤ k) ∧ Aside0 (wc.heap[gb447]? = some (.cells #[.string a0_0, .string a0_1, .int .i64 a0_2, .int .i64 a0_3, (.slice A0_4 l0_4.length c0_4), .int .i64 a0_5, .int .i64 a0_6, .int .i64 a0_7, .int .i64 a0_8, (.slice A0_9 l0_9.length c0_9)] 65 (0, 0))) ∧ Aside0 (wc.heap[gb448]? = some (.cells #[.string a1_0, .string a1_1, .int .i64 a1_2, .int .i64 a1_3, (.slice A1_4 l1_4.length c1_4), .int .i64 a1_5, .int .i64 a1_6, .int .i64 a1_7, .int .i64 a1_8, (.slice A1_9 l1_9.length c1_9)] 65 (0, 0))) ∧ Aside0 (Below w.heap.size w wc))
  case first =>
    have H := HC3.out
    clear HC3
    by_cases c6 : a0_0.toList = a1_0.toList
    · rw [if_pos c6] at H
      have c6b0 : (a0_0.toList == a1_0.toList) = true := beq_iff_eq.mpr c6
      have c6b1 : (a0_0.toList != a1_0.toList) = false := bne_eq_false_iff_eq.mpr c6
      clear c6
      (first | rw [c6b0] | rw [c6b1] | (simp only [i64_w, i32_w]; rw [c6b0]) | skip)
      by_cases c7 : a0_1.toList = a1_1.toList
      · rw [if_pos c7] at H
        have c7b0 : (a0_1.toList == a1_1.toList) = true := beq_iff_eq.mpr c7
        have c7b1 : (a0_1.toList != a1_1.toList) = false := bne_eq_false_iff_eq.mpr c7
        clear c7
        by_cases c8 : a0_2 = a1_2
        · rw [if_pos c8] at H
          have c8b0 : (a0_2 == a1_2) = true := beq_iff_eq.mpr c8
          have c8b1 : (a0_2 != a1_2) = false := bne_eq_false_iff_eq.mpr c8
          clear c8
          by_cases c9 : a0_3 = a1_3
          · rw [if_pos c9] at H
            have c9b0 : (a0_3 == a1_3) = true := beq_iff_eq.mpr c9
            have c9b1 : (a0_3 != a1_3) = false := bne_eq_false_iff_eq.mpr c9
            clear c9
            by_cases c10 : (!(a0_5 == a1_5) || (!(a0_6 == a1_6) || (!(a0_7 == a1_7) || (!(a0_8 == a1_8))))) = true
            · rw [if_pos c10] at H
              have c10b0 : (!(a0_5 == a1_5) || (!(a0_6 == a1_6) || (!(a0_7 == a1_7) || (!(a0_8 == a1_8))))) = true := c10
              clear c10
              have H' := Aside0.mk H
              clear H
              have hnb11 := NB447_448.out
              have hnc11 := NB448_447.out
              have hcz12_0 : w5.cell? ⟨gb447, 0, none⟩ = some (.string a0_0) := (blk_cell BK447.out 0).trans rfl
              have hcz12_1 : w5.cell? ⟨gb447, 1, none⟩ = some (.string a0_1) := (blk_cell BK447.out 1).trans rfl
              have hcz12_2 : w5.cell? ⟨gb447, 2, none⟩ = some (.int .i64 a0_2) := (blk_cell BK447.out 2).trans rfl
              have hcz12_3 : w5.cell? ⟨gb447, 3, none⟩ = some (.int .i64 a0_3) := (blk_cell BK447.out 3).trans rfl
              have hcz12_4 : w5.cell? ⟨gb447, 4, none⟩ = some (.slice A0_4 l0_4.length c0_4) := (blk_cell BK447.out 4).trans rfl
              have hcz12_5 : w5.cell? ⟨gb447, 5, none⟩ = some (.int .i64 a0_5) := (blk_cell BK447.out 5).trans rfl
              have hcz12_6 : w5.cell? ⟨gb447, 6, none⟩ = some (.int .i64 a0_6) := (blk_cell BK447.out 6).trans rfl
              have hcz12_7 : w5.cell? ⟨gb447, 7, none⟩ = some (.int .i64 a0_7) := (blk_cell BK447.out 7).trans rfl
              have hcz12_8 : w5.cell? ⟨gb447, 8, none⟩ = some (.int .i64 a0_8) := (blk_cell BK447.out 8).trans rfl
              have hcz12_9 : w5.cell? ⟨gb447, 9, none⟩ = some (.slice A0_9 l0_9.length c0_9) := (blk_cell BK447.out 9).trans rfl
              have hfz12_0 := blk_frozen BK447.out 0
              have hfz12_1 := blk_frozen BK447.out 1
              have hfz12_2 := blk_frozen BK447.out 2
              have hfz12_3 := blk_frozen BK447.out 3
              have hfz12_4 := blk_frozen BK447.out 4
              have hfz12_5 := blk_frozen BK447.out 5
              have hfz12_6 := blk_frozen BK447.out 6
              have hfz12_7 := blk_frozen BK447.out 7
              have hfz12_8 := blk_frozen BK447.out 8
              have hfz12_9 := blk_frozen BK447.out 9
              have hcz13_0 : w5.cell? ⟨gb448, 0, none⟩ = some (.string a1_0) := (blk_cell BK448.out 0).trans rfl
              have hcz13_1 : w5.cell? ⟨gb448, 1, none⟩ = some (.string a1_1) := (blk_cell BK448.out 1).trans rfl
              have hcz13_2 : w5.cell? ⟨gb448, 2, none⟩ = some (.int .i64 a1_2) := (blk_cell BK448.out 2).trans rfl
              have hcz13_3 : w5.cell? ⟨gb448, 3, none⟩ = some (.int .i64 a1_3) := (blk_cell BK448.out 3).trans rfl
              have hcz13_4 : w5.cell? ⟨gb448, 4, none⟩ = some (.slice A1_4 l1_4.length c1_4) := (blk_cell BK448.out 4).trans rfl
              have hcz13_5 : w5.cell? ⟨gb448, 5, none⟩ = some (.int .i64 a1_5) := (blk_cell BK448.out 5).trans rfl
              have hcz13_6 : w5.cell? ⟨gb448, 6, none⟩ = some (.int .i64 a1_6) := (blk_cell BK448.out 6).trans rfl
              have hcz13_7 : w5.cell? ⟨gb448, 7, none⟩ = some (.int .i64 a1_7) := (blk_cell BK448.out 7).trans rfl
              have hcz13_8 : w5.cell? ⟨gb448, 8, none⟩ = some (.int .i64 a1_8) := (blk_cell BK448.out 8).trans rfl
              have hcz13_9 : w5.cell? ⟨gb448, 9, none⟩ = some (.slice A1_9 l1_9.length c1_9) := (blk_cell BK448.out 9).trans rfl
              have hfz13_0 := blk_frozen BK448.out 0
              have hfz13_1 := blk_frozen BK448.out 1
              have hfz13_2 := blk_frozen BK448.out 2
              have hfz13_3 := blk_frozen BK448.out 3
              have hfz13_4 := blk_frozen BK448.out 4
              have hfz13_5 := blk_frozen BK448.out 5
              have hfz13_6 := blk_frozen BK448.out 6
              have hfz13_7 := blk_frozen BK448.out 7
              have hfz13_8 := blk_frozen BK448.out 8
              have hfz13_9 := blk_frozen BK448.out 9
              go_wp2
              repeat (go_quiet (fail); try go_wp2)
              go_meet
              case rel => exact ⟨_, (true), (by first | rfl | (simp; done) | (simp [*]; done)), H', ⟨by first | omega | exact Nat.le_refl _⟩, ⟨by (with_reducible repeat (first | refine blk_drewN ?_ _ | refine blk_drew ?_ | refine blk_alloc ?_ _)); exact BK447.out⟩, ⟨by (with_reducible repeat (first | refine blk_drewN ?_ _ | refine blk_drew ?_ | refine blk_alloc ?_ _)); exact BK448.out⟩, ⟨by repeat (first | (with_reducible first | exact HB.out | apply below_alloc | apply pw_below_drewN | apply below_drew1 | refine below_set ?_ GE447.out | refine below_set ?_ GE448.out) | exact HB.out)⟩⟩
            · rw [if_neg c10] at H
              have c10b0 : (!(a0_5 == a1_5) || (!(a0_6 == a1_6) || (!(a0_7 == a1_7) || (!(a0_8 == a1_8))))) = false := by simpa using c10
              clear c10
              by_cases c14 : (l0_4.length : Int) = (l1_4.length : Int)
              · rw [if_pos c14] at H
                have c14b0 : ((l0_4.length : Int) == (l1_4.length : Int)) = true := beq_iff_eq.mpr c14
                have c14b1 : ((l0_4.length : Int) != (l1_4.length : Int)) = false := bne_eq_false_iff_eq.mpr c14
                have c14b2 : (l0_4.length == l1_4.length) = true := by first | simpa using c14 | (simp at c14 ⊢; omega)
                clear c14
                have H' := Aside0.mk H
                clear H
                have hnb15 := NB447_448.out
                have hnc15 := NB448_447.out
                have hcz16_0 : w5.cell? ⟨gb447, 0, none⟩ = some (.string a0_0) := (blk_cell BK447.out 0).trans rfl
                have hcz16_1 : w5.cell? ⟨gb447, 1, none⟩ = some (.string a0_1) := (blk_cell BK447.out 1).trans rfl
                have hcz16_2 : w5.cell? ⟨gb447, 2, none⟩ = some (.int .i64 a0_2) := (blk_cell BK447.out 2).trans rfl
                have hcz16_3 : w5.cell? ⟨gb447, 3, none⟩ = some (.int .i64 a0_3) := (blk_cell BK447.out 3).trans rfl
                have hcz16_4 : w5.cell? ⟨gb447, 4, none⟩ = some (.slice A0_4 l0_4.length c0_4) := (blk_cell BK447.out 4).trans rfl
                have hcz16_5 : w5.cell? ⟨gb447, 5, none⟩ = some (.int .i64 a0_5) := (blk_cell BK447.out 5).trans rfl
                have hcz16_6 : w5.cell? ⟨gb447, 6, none⟩ = some (.int .i64 a0_6) := (blk_cell BK447.out 6).trans rfl
                have hcz16_7 : w5.cell? ⟨gb447, 7, none⟩ = some (.int .i64 a0_7) := (blk_cell BK447.out 7).trans rfl
                have hcz16_8 : w5.cell? ⟨gb447, 8, none⟩ = some (.int .i64 a0_8) := (blk_cell BK447.out 8).trans rfl
                have hcz16_9 : w5.cell? ⟨gb447, 9, none⟩ = some (.slice A0_9 l0_9.length c0_9) := (blk_cell BK447.out 9).trans rfl
                have hfz16_0 := blk_frozen BK447.out 0
                have hfz16_1 := blk_frozen BK447.out 1
                have hfz16_2 := blk_frozen BK447.out 2
                have hfz16_3 := blk_frozen BK447.out 3
                have hfz16_4 := blk_frozen BK447.out 4
                have hfz16_5 := blk_frozen BK447.out 5
                have hfz16_6 := blk_frozen BK447.out 6
                have hfz16_7 := blk_frozen BK447.out 7
                have hfz16_8 := blk_frozen BK447.out 8
                have hfz16_9 := blk_frozen BK447.out 9
                have hcz17_0 : w5.cell? ⟨gb448, 0, none⟩ = some (.string a1_0) := (blk_cell BK448.out 0).trans rfl
                have hcz17_1 : w5.cell? ⟨gb448, 1, none⟩ = some (.string a1_1) := (blk_cell BK448.out 1).trans rfl
                have hcz17_2 : w5.cell? ⟨gb448, 2, none⟩ = some (.int .i64 a1_2) := (blk_cell BK448.out 2).trans rfl
                have hcz17_3 : w5.cell? ⟨gb448, 3, none⟩ = some (.int .i64 a1_3) := (blk_cell BK448.out 3).trans rfl
                have hcz17_4 : w5.cell? ⟨gb448, 4, none⟩ = some (.slice A1_4 l1_4.length c1_4) := (blk_cell BK448.out 4).trans rfl
                have hcz17_5 : w5.cell? ⟨gb448, 5, none⟩ = some (.int .i64 a1_5) := (blk_cell BK448.out 5).trans rfl
                have hcz17_6 : w5.cell? ⟨gb448, 6, none⟩ = some (.int .i64 a1_6) := (blk_cell BK448.out 6).trans rfl
                have hcz17_7 : w5.cell? ⟨gb448, 7, none⟩ = some (.int .i64 a1_7) := (blk_cell BK448.out 7).trans rfl
                have hcz17_8 : w5.cell? ⟨gb448, 8, none⟩ = some (.int .i64 a1_8) := (blk_cell BK448.out 8).trans rfl
                have hcz17_9 : w5.cell? ⟨gb448, 9, none⟩ = some (.slice A1_9 l1_9.length c1_9) := (blk_cell BK448.out 9).trans rfl
                have hfz17_0 := blk_frozen BK448.out 0
                have hfz17_1 := blk_frozen BK448.out 1
                have hfz17_2 := blk_frozen BK448.out 2
                have hfz17_3 := blk_frozen BK448.out 3
                have hfz17_4 := blk_frozen BK448.out 4
                have hfz17_5 := blk_frozen BK448.out 5
                have hfz17_6 := blk_frozen BK448.out 6
                have hfz17_7 := blk_frozen BK448.out 7
                have hfz17_8 := blk_frozen BK448.out 8
                have hfz17_9 := blk_frozen BK448.out 9
                go_wp2
                repeat (go_quiet (fail); try go_wp2)
                go_meet
                case rel => exact ⟨_, (((l0_9.length : Int) != (l1_9.length : Int))), (by first | rfl | (simp; done) | (simp [*]; done)), H', ⟨by first | omega | exact Nat.le_refl _⟩, ⟨by (with_reducible repeat (first | refine blk_drewN ?_ _ | refine blk_drew ?_ | refine blk_alloc ?_ _)); exact BK447.out⟩, ⟨by (with_reducible repeat (first | refine blk_drewN ?_ _ | refine blk_drew ?_ | refine blk_alloc ?_ _)); exact BK448.out⟩, ⟨by repeat (first | (with_reducible first | exact HB.out | apply below_alloc | apply pw_below_drewN | apply below_drew1 | refine below_set ?_ GE447.out | refine below_set ?_ GE448.out) | exact HB.out)⟩⟩
              · rw [if_neg c14] at H
                have c14b0 : ((l0_4.length : Int) == (l1_4.length : Int)) = false := beq_eq_false_iff_ne.mpr c14
                have c14b1 : ((l0_4.length : Int) != (l1_4.length : Int)) = true := bne_iff_ne.mpr c14
                have c14b2 : (l0_4.length == l1_4.length) = false := by first | simpa using c14 | (simp at c14 ⊢; omega)
                have H' := Aside0.mk H
                clear H
                have hnb18 := NB447_448.out
                have hnc18 := NB448_447.out
                have hcz19_0 : w5.cell? ⟨gb447, 0, none⟩ = some (.string a0_0) := (blk_cell BK447.out 0).trans rfl
                have hcz19_1 : w5.cell? ⟨gb447, 1, none⟩ = some (.string a0_1) := (blk_cell BK447.out 1).trans rfl
                have hcz19_2 : w5.cell? ⟨gb447, 2, none⟩ = some (.int .i64 a0_2) := (blk_cell BK447.out 2).trans rfl
                have hcz19_3 : w5.cell? ⟨gb447, 3, none⟩ = some (.int .i64 a0_3) := (blk_cell BK447.out 3).trans rfl
                have hcz19_4 : w5.cell? ⟨gb447, 4, none⟩ = some (.slice A0_4 l0_4.length c0_4) := (blk_cell BK447.out 4).trans rfl
                have hcz19_5 : w5.cell? ⟨gb447, 5, none⟩ = some (.int .i64 a0_5) := (blk_cell BK447.out 5).trans rfl
                have hcz19_6 : w5.cell? ⟨gb447, 6, none⟩ = some (.int .i64 a0_6) := (blk_cell BK447.out 6).trans rfl
                have hcz19_7 : w5.cell? ⟨gb447, 7, none⟩ = some (.int .i64 a0_7) := (blk_cell BK447.out 7).trans rfl
                have hcz19_8 : w5.cell? ⟨gb447, 8, none⟩ = some (.int .i64 a0_8) := (blk_cell BK447.out 8).trans rfl
                have hcz19_9 : w5.cell? ⟨gb447, 9, none⟩ = some (.slice A0_9 l0_9.length c0_9) := (blk_cell BK447.out 9).trans rfl
                have hfz19_0 := blk_frozen BK447.out 0
                have hfz19_1 := blk_frozen BK447.out 1
                have hfz19_2 := blk_frozen BK447.out 2
                have hfz19_3 := blk_frozen BK447.out 3
                have hfz19_4 := blk_frozen BK447.out 4
                have hfz19_5 := blk_frozen BK447.out 5
                have hfz19_6 := blk_frozen BK447.out 6
                have hfz19_7 := blk_frozen BK447.out 7
                have hfz19_8 := blk_frozen BK447.out 8
                have hfz19_9 := blk_frozen BK447.out 9
                have hcz20_0 : w5.cell? ⟨gb448, 0, none⟩ = some (.string a1_0) := (blk_cell BK448.out 0).trans rfl
                have hcz20_1 : w5.cell? ⟨gb448, 1, none⟩ = some (.string a1_1) := (blk_cell BK448.out 1).trans rfl
                have hcz20_2 : w5.cell? ⟨gb448, 2, none⟩ = some (.int .i64 a1_2) := (blk_cell BK448.out 2).trans rfl
                have hcz20_3 : w5.cell? ⟨gb448, 3, none⟩ = some (.int .i64 a1_3) := (blk_cell BK448.out 3).trans rfl
                have hcz20_4 : w5.cell? ⟨gb448, 4, none⟩ = some (.slice A1_4 l1_4.length c1_4) := (blk_cell BK448.out 4).trans rfl
                have hcz20_5 : w5.cell? ⟨gb448, 5, none⟩ = some (.int .i64 a1_5) := (blk_cell BK448.out 5).trans rfl
                have hcz20_6 : w5.cell? ⟨gb448, 6, none⟩ = some (.int .i64 a1_6) := (blk_cell BK448.out 6).trans rfl
                have hcz20_7 : w5.cell? ⟨gb448, 7, none⟩ = some (.int .i64 a1_7) := (blk_cell BK448.out 7).trans rfl
                have hcz20_8 : w5.cell? ⟨gb448, 8, none⟩ = some (.int .i64 a1_8) := (blk_cell BK448.out 8).trans rfl
                have hcz20_9 : w5.cell? ⟨gb448, 9, none⟩ = some (.slice A1_9 l1_9.length c1_9) := (blk_cell BK448.out 9).trans rfl
                have hfz20_0 := blk_frozen BK448.out 0
                have hfz20_1 := blk_frozen BK448.out 1
                have hfz20_2 := blk_frozen BK448.out 2
                have hfz20_3 := blk_frozen BK448.out 3
                have hfz20_4 := blk_frozen BK448.out 4
                have hfz20_5 := blk_frozen BK448.out 5
                have hfz20_6 := blk_frozen BK448.out 6
                have hfz20_7 := blk_frozen BK448.out 7
                have hfz20_8 := blk_frozen BK448.out 8
                have hfz20_9 := blk_frozen BK448.out 9
                go_wp2
                repeat (go_quiet (fail); try go_wp2)
                go_meet
                case rel => exact ⟨_, (true), (by first | rfl | (simp; done) | (simp [*]; done)), H', ⟨by first | omega | exact Nat.le_refl _⟩, ⟨by (with_reducible repeat (first | refine blk_drewN ?_ _ | refine blk_drew ?_ | refine blk_alloc ?_ _)); exact BK447.out⟩, ⟨by (with_reducible repeat (first | refine blk_drewN ?_ _ | refine blk_drew ?_ | refine blk_alloc ?_ _)); exact BK448.out⟩, ⟨by repeat (first | (with_reducible first | exact HB.out | apply below_alloc | apply pw_below_drewN | apply below_drew1 | refine below_set ?_ GE447.out | refine below_set ?_ GE448.out) | exact HB.out)⟩⟩
          · rw [if_neg c9] at H
            have c9b0 : (a0_3 == a1_3) = false := beq_eq_false_iff_ne.mpr c9
            have c9b1 : (a0_3 != a1_3) = true := bne_iff_ne.mpr c9
            have H' := Aside0.mk H
            clear H
            have hnb21 := NB447_448.out
            have hnc21 := NB448_447.out
            have hcz22_0 : w5.cell? ⟨gb447, 0, none⟩ = some (.string a0_0) := (blk_cell BK447.out 0).trans rfl
            have hcz22_1 : w5.cell? ⟨gb447, 1, none⟩ = some (.string a0_1) := (blk_cell BK447.out 1).trans rfl
            have hcz22_2 : w5.cell? ⟨gb447, 2, none⟩ = some (.int .i64 a0_2) := (blk_cell BK447.out 2).trans rfl
            have hcz22_3 : w5.cell? ⟨gb447, 3, none⟩ = some (.int .i64 a0_3) := (blk_cell BK447.out 3).trans rfl
            have hcz22_4 : w5.cell? ⟨gb447, 4, none⟩ = some (.slice A0_4 l0_4.length c0_4) := (blk_cell BK447.out 4).trans rfl
            have hcz22_5 : w5.cell? ⟨gb447, 5, none⟩ = some (.int .i64 a0_5) := (blk_cell BK447.out 5).trans rfl
            have hcz22_6 : w5.cell? ⟨gb447, 6, none⟩ = some (.int .i64 a0_6) := (blk_cell BK447.out 6).trans rfl
            have hcz22_7 : w5.cell? ⟨gb447, 7, none⟩ = some (.int .i64 a0_7) := (blk_cell BK447.out 7).trans rfl
            have hcz22_8 : w5.cell? ⟨gb447, 8, none⟩ = some (.int .i64 a0_8) := (blk_cell BK447.out 8).trans rfl
            have hcz22_9 : w5.cell? ⟨gb447, 9, none⟩ = some (.slice A0_9 l0_9.length c0_9) := (blk_cell BK447.out 9).trans rfl
            have hfz22_0 := blk_frozen BK447.out 0
            have hfz22_1 := blk_frozen BK447.out 1
            have hfz22_2 := blk_frozen BK447.out 2
            have hfz22_3 := blk_frozen BK447.out 3
            have hfz22_4 := blk_frozen BK447.out 4
            have hfz22_5 := blk_frozen BK447.out 5
            have hfz22_6 := blk_frozen BK447.out 6
            have hfz22_7 := blk_frozen BK447.out 7
            have hfz22_8 := blk_frozen BK447.out 8
            have hfz22_9 := blk_frozen BK447.out 9
            have hcz23_0 : w5.cell? ⟨gb448, 0, none⟩ = some (.string a1_0) := (blk_cell BK448.out 0).trans rfl
            have hcz23_1 : w5.cell? ⟨gb448, 1, none⟩ = some (.string a1_1) := (blk_cell BK448.out 1).trans rfl
            have hcz23_2 : w5.cell? ⟨gb448, 2, none⟩ = some (.int .i64 a1_2) := (blk_cell BK448.out 2).trans rfl
            have hcz23_3 : w5.cell? ⟨gb448, 3, none⟩ = some (.int .i64 a1_3) := (blk_cell BK448.out 3).trans rfl
            have hcz23_4 : w5.cell? ⟨gb448, 4, none⟩ = some (.slice A1_4 l1_4.length c1_4) := (blk_cell BK448.out 4).trans rfl
            have hcz23_5 : w5.cell? ⟨gb448, 5, none⟩ = some (.int .i64 a1_5) := (blk_cell BK448.out 5).trans rfl
            have hcz23_6 : w5.cell? ⟨gb448, 6, none⟩ = some (.int .i64 a1_6) := (blk_cell BK448.out 6).trans rfl
            have hcz23_7 : w5.cell? ⟨gb448, 7, none⟩ = some (.int .i64 a1_7) := (blk_cell BK448.out 7).trans rfl
            have hcz23_8 : w5.cell? ⟨gb448, 8, none⟩ = some (.int .i64 a1_8) := (blk_cell BK448.out 8).trans rfl
            have hcz23_9 : w5.cell? ⟨gb448, 9, none⟩ = some (.slice A1_9 l1_9.length c1_9) := (blk_cell BK448.out 9).trans rfl
            have hfz23_0 := blk_frozen BK448.out 0
            have hfz23_1 := blk_frozen BK448.out 1
            have hfz23_2 := blk_frozen BK448.out 2
            have hfz23_3 := blk_frozen BK448.out 3
            have hfz23_4 := blk_frozen BK448.out 4
            have hfz23_5 := blk_frozen BK448.out 5
            have hfz23_6 := blk_frozen BK448.out 6
            have hfz23_7 := blk_frozen BK448.out 7
            have hfz23_8 := blk_frozen BK448.out 8
            have hfz23_9 := blk_frozen BK448.out 9
            go_wp2
            repeat (go_quiet (fail); try go_wp2)
            go_meet
            case rel => exact ⟨_, (true), (by first | rfl | (simp; done) | (simp [*]; done)), H', ⟨by first | omega | exact Nat.le_refl _⟩, ⟨by (with_reducible repeat (first | refine blk_drewN ?_ _ | refine blk_drew ?_ | refine blk_alloc ?_ _)); exact BK447.out⟩, ⟨by (with_reducible repeat (first | refine blk_drewN ?_ _ | refine blk_drew ?_ | refine blk_alloc ?_ _)); exact BK448.out⟩, ⟨by repeat (first | (with_reducible first | exact HB.out | apply below_alloc | apply pw_below_drewN | apply below_drew1 | refine below_set ?_ GE447.out | refine below_set ?_ GE448.out) | exact HB.out)⟩⟩
        · rw [if_neg c8] at H
          have c8b0 : (a0_2 == a1_2) = false := beq_eq_false_iff_ne.mpr c8
          have c8b1 : (a0_2 != a1_2) = true := bne_iff_ne.mpr c8
          have H' := Aside0.mk H
          clear H
          have hnb24 := NB447_448.out
          have hnc24 := NB448_447.out
          have hcz25_0 : w5.cell? ⟨gb447, 0, none⟩ = some (.string a0_0) := (blk_cell BK447.out 0).trans rfl
          have hcz25_1 : w5.cell? ⟨gb447, 1, none⟩ = some (.string a0_1) := (blk_cell BK447.out 1).trans rfl
          have hcz25_2 : w5.cell? ⟨gb447, 2, none⟩ = some (.int .i64 a0_2) := (blk_cell BK447.out 2).trans rfl
          have hcz25_3 : w5.cell? ⟨gb447, 3, none⟩ = some (.int .i64 a0_3) := (blk_cell BK447.out 3).trans rfl
          have hcz25_4 : w5.cell? ⟨gb447, 4, none⟩ = some (.slice A0_4 l0_4.length c0_4) := (blk_cell BK447.out 4).trans rfl
          have hcz25_5 : w5.cell? ⟨gb447, 5, none⟩ = some (.int .i64 a0_5) := (blk_cell BK447.out 5).trans rfl
          have hcz25_6 : w5.cell? ⟨gb447, 6, none⟩ = some (.int .i64 a0_6) := (blk_cell BK447.out 6).trans rfl
          have hcz25_7 : w5.cell? ⟨gb447, 7, none⟩ = some (.int .i64 a0_7) := (blk_cell BK447.out 7).trans rfl
          have hcz25_8 : w5.cell? ⟨gb447, 8, none⟩ = some (.int .i64 a0_8) := (blk_cell BK447.out 8).trans rfl
          have hcz25_9 : w5.cell? ⟨gb447, 9, none⟩ = some (.slice A0_9 l0_9.length c0_9) := (blk_cell BK447.out 9).trans rfl
          have hfz25_0 := blk_frozen BK447.out 0
          have hfz25_1 := blk_frozen BK447.out 1
          have hfz25_2 := blk_frozen BK447.out 2
          have hfz25_3 := blk_frozen BK447.out 3
          have hfz25_4 := blk_frozen BK447.out 4
          have hfz25_5 := blk_frozen BK447.out 5
          have hfz25_6 := blk_frozen BK447.out 6
          have hfz25_7 := blk_frozen BK447.out 7
          have hfz25_8 := blk_frozen BK447.out 8
          have hfz25_9 := blk_frozen BK447.out 9
          have hcz26_0 : w5.cell? ⟨gb448, 0, none⟩ = some (.string a1_0) := (blk_cell BK448.out 0).trans rfl
          have hcz26_1 : w5.cell? ⟨gb448, 1, none⟩ = some (.string a1_1) := (blk_cell BK448.out 1).trans rfl
          have hcz26_2 : w5.cell? ⟨gb448, 2, none⟩ = some (.int .i64 a1_2) := (blk_cell BK448.out 2).trans rfl
          have hcz26_3 : w5.cell? ⟨gb448, 3, none⟩ = some (.int .i64 a1_3) := (blk_cell BK448.out 3).trans rfl
          have hcz26_4 : w5.cell? ⟨gb448, 4, none⟩ = some (.slice A1_4 l1_4.length c1_4) := (blk_cell BK448.out 4).trans rfl
          have hcz26_5 : w5.cell? ⟨gb448, 5, none⟩ = some (.int .i64 a1_5) := (blk_cell BK448.out 5).trans rfl
          have hcz26_6 : w5.cell? ⟨gb448, 6, none⟩ = some (.int .i64 a1_6) := (blk_cell BK448.out 6).trans rfl
          have hcz26_7 : w5.cell? ⟨gb448, 7, none⟩ = some (.int .i64 a1_7) := (blk_cell BK448.out 7).trans rfl
          have hcz26_8 : w5.cell? ⟨gb448, 8, none⟩ = some (.int .i64 a1_8) := (blk_cell BK448.out 8).trans rfl
          have hcz26_9 : w5.cell? ⟨gb448, 9, none⟩ = some (.slice A1_9 l1_9.length c1_9) := (blk_cell BK448.out 9).trans rfl
          have hfz26_0 := blk_frozen BK448.out 0
          have hfz26_1 := blk_frozen BK448.out 1
          have hfz26_2 := blk_frozen BK448.out 2
          have hfz26_3 := blk_frozen BK448.out 3
          have hfz26_4 := blk_frozen BK448.out 4
          have hfz26_5 := blk_frozen BK448.out 5
          have hfz26_6 := blk_frozen BK448.out 6
          have hfz26_7 := blk_frozen BK448.out 7
          have hfz26_8 := blk_frozen BK448.out 8
          have hfz26_9 := blk_frozen BK448.out 9
          go_wp2
          repeat (go_quiet (fail); try go_wp2)
          go_meet
          case rel => exact ⟨_, (true), (by first | rfl | (simp; done) | (simp [*]; done)), H', ⟨by first | omega | exact Nat.le_refl _⟩, ⟨by (with_reducible repeat (first | refine blk_drewN ?_ _ | refine blk_drew ?_ | refine blk_alloc ?_ _)); exact BK447.out⟩, ⟨by (with_reducible repeat (first | refine blk_drewN ?_ _ | refine blk_drew ?_ | refine blk_alloc ?_ _)); exact BK448.out⟩, ⟨by repeat (first | (with_reducible first | exact HB.out | apply below_alloc | apply pw_below_drewN | apply below_drew1 | refine below_set ?_ GE447.out | refine below_set ?_ GE448.out) | exact HB.out)⟩⟩
      · rw [if_neg c7] at H
        have c7b0 : (a0_1.toList == a1_1.toList) = false := beq_eq_false_iff_ne.mpr c7
        have c7b1 : (a0_1.toList != a1_1.toList) = true := bne_iff_ne.mpr c7
        have H' := Aside0.mk H
        clear H
        have hnb27 := NB447_448.out
        have hnc27 := NB448_447.out
        have hcz28_0 : w5.cell? ⟨gb447, 0, none⟩ = some (.string a0_0) := (blk_cell BK447.out 0).trans rfl
        have hcz28_1 : w5.cell? ⟨gb447, 1, none⟩ = some (.string a0_1) := (blk_cell BK447.out 1).trans rfl
        have hcz28_2 : w5.cell? ⟨gb447, 2, none⟩ = some (.int .i64 a0_2) := (blk_cell BK447.out 2).trans rfl
        have hcz28_3 : w5.cell? ⟨gb447, 3, none⟩ = some (.int .i64 a0_3) := (blk_cell BK447.out 3).trans rfl
        have hcz28_4 : w5.cell? ⟨gb447, 4, none⟩ = some (.slice A0_4 l0_4.length c0_4) := (blk_cell BK447.out 4).trans rfl
        have hcz28_5 : w5.cell? ⟨gb447, 5, none⟩ = some (.int .i64 a0_5) := (blk_cell BK447.out 5).trans rfl
        have hcz28_6 : w5.cell? ⟨gb447, 6, none⟩ = some (.int .i64 a0_6) := (blk_cell BK447.out 6).trans rfl
        have hcz28_7 : w5.cell? ⟨gb447, 7, none⟩ = some (.int .i64 a0_7) := (blk_cell BK447.out 7).trans rfl
        have hcz28_8 : w5.cell? ⟨gb447, 8, none⟩ = some (.int .i64 a0_8) := (blk_cell BK447.out 8).trans rfl
        have hcz28_9 : w5.cell? ⟨gb447, 9, none⟩ = some (.slice A0_9 l0_9.length c0_9) := (blk_cell BK447.out 9).trans rfl
        have hfz28_0 := blk_frozen BK447.out 0
        have hfz28_1 := blk_frozen BK447.out 1
        have hfz28_2 := blk_frozen BK447.out 2
        have hfz28_3 := blk_frozen BK447.out 3
        have hfz28_4 := blk_frozen BK447.out 4
        have hfz28_5 := blk_frozen BK447.out 5
        have hfz28_6 := blk_frozen BK447.out 6
        have hfz28_7 := blk_frozen BK447.out 7
        have hfz28_8 := blk_frozen BK447.out 8
        have hfz28_9 := blk_frozen BK447.out 9
        have hcz29_0 : w5.cell? ⟨gb448, 0, none⟩ = some (.string a1_0) := (blk_cell BK448.out 0).trans rfl
        have hcz29_1 : w5.cell? ⟨gb448, 1, none⟩ = some (.string a1_1) := (blk_cell BK448.out 1).trans rfl
        have hcz29_2 : w5.cell? ⟨gb448, 2, none⟩ = some (.int .i64 a1_2) := (blk_cell BK448.out 2).trans rfl
        have hcz29_3 : w5.cell? ⟨gb448, 3, none⟩ = some (.int .i64 a1_3) := (blk_cell BK448.out 3).trans rfl
        have hcz29_4 : w5.cell? ⟨gb448, 4, none⟩ = some (.slice A1_4 l1_4.length c1_4) := (blk_cell BK448.out 4).trans rfl
        have hcz29_5 : w5.cell? ⟨gb448, 5, none⟩ = some (.int .i64 a1_5) := (blk_cell BK448.out 5).trans rfl
        have hcz29_6 : w5.cell? ⟨gb448, 6, none⟩ = some (.int .i64 a1_6) := (blk_cell BK448.out 6).trans rfl
        have hcz29_7 : w5.cell? ⟨gb448, 7, none⟩ = some (.int .i64 a1_7) := (blk_cell BK448.out 7).trans rfl
        have hcz29_8 : w5.cell? ⟨gb448, 8, none⟩ = some (.int .i64 a1_8) := (blk_cell BK448.out 8).trans rfl
        have hcz29_9 : w5.cell? ⟨gb448, 9, none⟩ = some (.slice A1_9 l1_9.length c1_9) := (blk_cell BK448.out 9).trans rfl
        have hfz29_0 := blk_frozen BK448.out 0
        have hfz29_1 := blk_frozen BK448.out 1
        have hfz29_2 := blk_frozen BK448.out 2
        have hfz29_3 := blk_frozen BK448.out 3
        have hfz29_4 := blk_frozen BK448.out 4
        have hfz29_5 := blk_frozen BK448.out 5
        have hfz29_6 := blk_frozen BK448.out 6
        have hfz29_7 := blk_frozen BK448.out 7
        have hfz29_8 := blk_frozen BK448.out 8
        have hfz29_9 := blk_frozen BK448.out 9
        go_wp2
        repeat (go_quiet (fail); try go_wp2)
        go_meet
        case rel => exact ⟨_, (true), (by first | rfl | (simp; done) | (simp [*]; done)), H', ⟨by first | omega | exact Nat.le_refl _⟩, ⟨by (with_reducible repeat (first | refine blk_drewN ?_ _ | refine blk_drew ?_ | refine blk_alloc ?_ _)); exact BK447.out⟩, ⟨by (with_reducible repeat (first | refine blk_drewN ?_ _ | refine blk_drew ?_ | refine blk_alloc ?_ _)); exact BK448.out⟩, ⟨by repeat (first | (with_reducible first | exact HB.out | apply below_alloc | apply pw_below_drewN | apply below_drew1 | refine below_set ?_ GE447.out | refine below_set ?_ GE448.out) | exact HB.out)⟩⟩
    · rw [if_neg c6] at H
      have c6b0 : (a0_0.toList == a1_0.toList) = false := beq_eq_false_iff_ne.mpr c6
      have c6b1 : (a0_0.toList != a1_0.toList) = true := bne_iff_ne.mpr c6
      (first | rw [c6b0] | rw [c6b1] | (simp only [i64_w, i32_w]; rw [c6b0]) | skip)
      have H' := Aside0.mk H
      clear H
      have hnb30 := NB447_448.out
      have hnc30 := NB448_447.out
      have hcz31_0 : w5.cell? ⟨gb447, 0, none⟩ = some (.string a0_0) := (blk_cell BK447.out 0).trans rfl
      have hcz31_1 : w5.cell? ⟨gb447, 1, none⟩ = some (.string a0_1) := (blk_cell BK447.out 1).trans rfl
      have hcz31_2 : w5.cell? ⟨gb447, 2, none⟩ = some (.int .i64 a0_2) := (blk_cell BK447.out 2).trans rfl
      have hcz31_3 : w5.cell? ⟨gb447, 3, none⟩ = some (.int .i64 a0_3) := (blk_cell BK447.out 3).trans rfl
      have hcz31_4 : w5.cell? ⟨gb447, 4, none⟩ = some (.slice A0_4 l0_4.length c0_4) := (blk_cell BK447.out 4).trans rfl
      have hcz31_5 : w5.cell? ⟨gb447, 5, none⟩ = some (.int .i64 a0_5) := (blk_cell BK447.out 5).trans rfl
      have hcz31_6 : w5.cell? ⟨gb447, 6, none⟩ = some (.int .i64 a0_6) := (blk_cell BK447.out 6).trans rfl
      have hcz31_7 : w5.cell? ⟨gb447, 7, none⟩ = some (.int .i64 a0_7) := (blk_cell BK447.out 7).trans rfl
      have hcz31_8 : w5.cell? ⟨gb447, 8, none⟩ = some (.int .i64 a0_8) := (blk_cell BK447.out 8).trans rfl
      have hcz31_9 : w5.cell? ⟨gb447, 9, none⟩ = some (.slice A0_9 l0_9.length c0_9) := (blk_cell BK447.out 9).trans rfl
      have hfz31_0 := blk_frozen BK447.out 0
      have hfz31_1 := blk_frozen BK447.out 1
      have hfz31_2 := blk_frozen BK447.out 2
      have hfz31_3 := blk_frozen BK447.out 3
      have hfz31_4 := blk_frozen BK447.out 4
      have hfz31_5 := blk_frozen BK447.out 5
      have hfz31_6 := blk_frozen BK447.out 6
      have hfz31_7 := blk_frozen BK447.out 7
      have hfz31_8 := blk_frozen BK447.out 8
      have hfz31_9 := blk_frozen BK447.out 9
      have hcz32_0 : w5.cell? ⟨gb448, 0, none⟩ = some (.string a1_0) := (blk_cell BK448.out 0).trans rfl
      have hcz32_1 : w5.cell? ⟨gb448, 1, none⟩ = some (.string a1_1) := (blk_cell BK448.out 1).trans rfl
      have hcz32_2 : w5.cell? ⟨gb448, 2, none⟩ = some (.int .i64 a1_2) := (blk_cell BK448.out 2).trans rfl
      have hcz32_3 : w5.cell? ⟨gb448, 3, none⟩ = some (.int .i64 a1_3) := (blk_cell BK448.out 3).trans rfl
      have hcz32_4 : w5.cell? ⟨gb448, 4, none⟩ = some (.slice A1_4 l1_4.length c1_4) := (blk_cell BK448.out 4).trans rfl
      have hcz32_5 : w5.cell? ⟨gb448, 5, none⟩ = some (.int .i64 a1_5) := (blk_cell BK448.out 5).trans rfl
      have hcz32_6 : w5.cell? ⟨gb448, 6, none⟩ = some (.int .i64 a1_6) := (blk_cell BK448.out 6).trans rfl
      have hcz32_7 : w5.cell? ⟨gb448, 7, none⟩ = some (.int .i64 a1_7) := (blk_cell BK448.out 7).trans rfl
      have hcz32_8 : w5.cell? ⟨gb448, 8, none⟩ = some (.int .i64 a1_8) := (blk_cell BK448.out 8).trans rfl
      have hcz32_9 : w5.cell? ⟨gb448, 9, none⟩ = some (.slice A1_9 l1_9.length c1_9) := (blk_cell BK448.out 9).trans rfl
      have hfz32_0 := blk_frozen BK448.out 0
      have hfz32_1 := blk_frozen BK448.out 1
      have hfz32_2 := blk_frozen BK448.out 2
      have hfz32_3 := blk_frozen BK448.out 3
      have hfz32_4 := blk_frozen BK448.out 4
      have hfz32_5 := blk_frozen BK448.out 5
      have hfz32_6 := blk_frozen BK448.out 6
      have hfz32_7 := blk_frozen BK448.out 7
      have hfz32_8 := blk_frozen BK448.out 8
      have hfz32_9 := blk_frozen BK448.out 9
      go_wp2
      repeat (go_quiet (fail); try go_wp2)
      go_meet
      case rel => exact ⟨_, (true), (by first | rfl | (simp; done) | (simp [*]; done)), H', ⟨by first | omega | exact Nat.le_refl _⟩, ⟨by (with_reducible repeat (first | refine blk_drewN ?_ _ | refine blk_drew ?_ | refine blk_alloc ?_ _)); exact BK447.out⟩, ⟨by (with_reducible repeat (first | refine blk_drewN ?_ _ | refine blk_drew ?_ | refine blk_alloc ?_ _)); exact BK448.out⟩, ⟨by repeat (first | (with_reducible first | exact HB.out | apply below_alloc | apply pw_below_drewN | apply below_drew1 | refine below_set ?_ GE447.out | refine below_set ?_ GE448.out) | exact HB.out)⟩⟩
  case rest =>
    clear HC3
    try clear c1
    try clear c2
    try clear p2
    try clear c3
    try clear c6
    try clear c6b0
    try clear c6b1
    try clear c7
    try clear c7b0
    try clear c7b1
    try clear c8
    try clear c8b0
    try clear c8b1
    try clear c9
    try clear c9b0
    try clear c9b1
    try clear c10
    try clear c10b0
    try clear c11
    try clear c14
    try clear c14b0
    try clear c14b1
    try clear c14b2
    try clear c15
    try clear c18
    try clear c21
    try clear c24
    try clear c27
    try clear c30
    try clear hcz12_0
    try clear hcz12_1
    try clear hcz12_2
    try clear hcz12_3
    try clear hcz12_4
    try clear hcz12_5
    try clear hcz12_6
    try clear hcz12_7
    try clear hcz12_8
    try clear hcz12_9
    try clear hcz13_0
    try clear hcz13_1
    try clear hcz13_2
    try clear hcz13_3
    try clear hcz13_4
    try clear hcz13_5
    try clear hcz13_6
    try clear hcz13_7
    try clear hcz13_8
    try clear hcz13_9
    try clear hcz16_0
    try clear hcz16_1
    try clear hcz16_2
    try clear hcz16_3
    try clear hcz16_4
    try clear hcz16_5
    try clear hcz16_6
    try clear hcz16_7
    try clear hcz16_8
    try clear hcz16_9
    try clear hcz17_0
    try clear hcz17_1
    try clear hcz17_2
    try clear hcz17_3
    try clear hcz17_4
    try clear hcz17_5
    try clear hcz17_6
    try clear hcz17_7
    try clear hcz17_8
    try clear hcz17_9
    try clear hcz19_0
    try clear hcz19_1
    try clear hcz19_2
    try clear hcz19_3
    try clear hcz19_4
    try clear hcz19_5
    try clear hcz19_6
    try clear hcz19_7
    try clear hcz19_8
    try clear hcz19_9
    try clear hcz20_0
    try clear hcz20_1
    try clear hcz20_2
    try clear hcz20_3
    try clear hcz20_4
    try clear hcz20_5
    try clear hcz20_6
    try clear hcz20_7
    try clear hcz20_8
    try clear hcz20_9
    try clear hcz22_0
    try clear hcz22_1
    try clear hcz22_2
    try clear hcz22_3
    try clear hcz22_4
    try clear hcz22_5
    try clear hcz22_6
    try clear hcz22_7
    try clear hcz22_8
    try clear hcz22_9
    try clear hcz23_0
    try clear hcz23_1
    try clear hcz23_2
    try clear hcz23_3
    try clear hcz23_4
    try clear hcz23_5
    try clear hcz23_6
    try clear hcz23_7
    try clear hcz23_8
    try clear hcz23_9
    try clear hcz25_0
    try clear hcz25_1
    try clear hcz25_2
    try clear hcz25_3
    try clear hcz25_4
    try clear hcz25_5
    try clear hcz25_6
    try clear hcz25_7
    try clear hcz25_8
    try clear hcz25_9
    try clear hcz26_0
    try clear hcz26_1
    try clear hcz26_2
    try clear hcz26_3
    try clear hcz26_4
    try clear hcz26_5
    try clear hcz26_6
    try clear hcz26_7
    try clear hcz26_8
    try clear hcz26_9
    try clear hcz28_0
    try clear hcz28_1
    try clear hcz28_2
    try clear hcz28_3
    try clear hcz28_4
    try clear hcz28_5
    try clear hcz28_6
    try clear hcz28_7
    try clear hcz28_8
    try clear hcz28_9
    try clear hcz29_0
    try clear hcz29_1
    try clear hcz29_2
    try clear hcz29_3
    try clear hcz29_4
    try clear hcz29_5
    try clear hcz29_6
    try clear hcz29_7
    try clear hcz29_8
    try clear hcz29_9
    try clear hcz31_0
    try clear hcz31_1
    try clear hcz31_2
    try clear hcz31_3
    try clear hcz31_4
    try clear hcz31_5
    try clear hcz31_6
    try clear hcz31_7
    try clear hcz31_8
    try clear hcz31_9
    try clear hcz32_0
    try clear hcz32_1
    try clear hcz32_2
    try clear hcz32_3
    try clear hcz32_4
    try clear hcz32_5
    try clear hcz32_6
    try clear hcz32_7
    try clear hcz32_8
    try clear hcz32_9
    try clear hfz12_0
    try clear hfz12_1
    try clear hfz12_2
    try clear hfz12_3
    try clear hfz12_4
    try clear hfz12_5
    try clear hfz12_6
    try clear hfz12_7
    try clear hfz12_8
    try clear hfz12_9
    try clear hfz13_0
    try clear hfz13_1
    try clear hfz13_2
    try clear hfz13_3
    try clear hfz13_4
    try clear hfz13_5
    try clear hfz13_6
    try clear hfz13_7
    try clear hfz13_8
    try clear hfz13_9
    try clear hfz16_0
    try clear hfz16_1
    try clear hfz16_2
    try clear hfz16_3
    try clear hfz16_4
    try clear hfz16_5
    try clear hfz16_6
    try clear hfz16_7
    try clear hfz16_8
    try clear hfz16_9
    try clear hfz17_0
    try clear hfz17_1
    try clear hfz17_2
    try clear hfz17_3
    try clear hfz17_4
    try clear hfz17_5
    try clear hfz17_6
    try clear hfz17_7
    try clear hfz17_8
    try clear hfz17_9
    try clear hfz19_0
    try clear hfz19_1
    try clear hfz19_2
    try clear hfz19_3
    try clear hfz19_4
    try clear hfz19_5
    try clear hfz19_6
    try clear hfz19_7
    try clear hfz19_8
    try clear hfz19_9
    try clear hfz20_0
    try clear hfz20_1
    try clear hfz20_2
    try clear hfz20_3
    try clear hfz20_4
    try clear hfz20_5
    try clear hfz20_6
    try clear hfz20_7
    try clear hfz20_8
    try clear hfz20_9
    try clear hfz22_0
    try clear hfz22_1
    try clear hfz22_2
    try clear hfz22_3
    try clear hfz22_4
    try clear hfz22_5
    try clear hfz22_6
    try clear hfz22_7
    try clear hfz22_8
    try clear hfz22_9
    try clear hfz23_0
    try clear hfz23_1
    try clear hfz23_2
    try clear hfz23_3
    try clear hfz23_4
    try clear hfz23_5
    try clear hfz23_6
    try clear hfz23_7
    try clear hfz23_8
    try clear hfz23_9
    try clear hfz25_0
    try clear hfz25_1
    try clear hfz25_2
    try clear hfz25_3
    try clear hfz25_4
    try clear hfz25_5
    try clear hfz25_6
    try clear hfz25_7
    try clear hfz25_8
    try clear hfz25_9
    try clear hfz26_0
    try clear hfz26_1
    try clear hfz26_2
    try clear hfz26_3
    try clear hfz26_4
    try clear hfz26_5
    try clear hfz26_6
    try clear hfz26_7
    try clear hfz26_8
    try clear hfz26_9
    try clear hfz28_0
    try clear hfz28_1
    try clear hfz28_2
    try clear hfz28_3
    try clear hfz28_4
    try clear hfz28_5
    try clear hfz28_6
    try clear hfz28_7
    try clear hfz28_8
    try clear hfz28_9
    try clear hfz29_0
    try clear hfz29_1
    try clear hfz29_2
    try clear hfz29_3
    try clear hfz29_4
    try clear hfz29_5
    try clear hfz29_6
    try clear hfz29_7
    try clear hfz29_8
    try clear hfz29_9
    try clear hfz31_0
    try clear hfz31_1
    try clear hfz31_2
    try clear hfz31_3
    try clear hfz31_4
    try clear hfz31_5
    try clear hfz31_6
    try clear hfz31_7
    try clear hfz31_8
    try clear hfz31_9
    try clear hfz32_0
    try clear hfz32_1
    try clear hfz32_2
    try clear hfz32_3
    try clear hfz32_4
    try clear hfz32_5
    try clear hfz32_6
    try clear hfz32_7
    try clear hfz32_8
    try clear hfz32_9
    obtain ⟨kq, x57_2, rfl, HA, HJ2, BK447, BK448, HB⟩ := hcut
    cases kq with
    | zero => exact absurd HA.out (by simp [spec_OrderSame.j0])
    | succ kj2 =>
      have H := HA.out
      clear HA
      simp only [spec_OrderSame.j0] at H
      by_cases c33 : x57_2 = true
      · subst c33
        have H1 : (some false) = some r := by rw [if_pos rfl] at H; exact H
        clear H
        have H := H1
        clear H1
        obtain rfl := Option.some.inj H
        go_wp2
        repeat (go_quiet (fail); try go_wp2)
        go_ret
        exact ⟨by first | rfl | (simp [errW_none, errW_some] <;> rfl) | (simp [*, errW_none, errW_some] <;> rfl), by repeat (first | (with_reducible first | exact HB.out | apply below_alloc | apply pw_below_drewN | apply below_drew1 | refine below_set ?_ GE447.out | refine below_set ?_ GE448.out) | exact HB.out)⟩
      · replace c33 := Bool.eq_false_iff.mpr c33
        subst c33
        have H1 : (spec_OrderSame.l0 kj2 0 a0_0 a0_1 a0_2 a0_3 l0_4 a0_5 a0_6 a0_7 a0_8 l0_9 a1_0 a1_1 a1_2 a1_3 l1_4 a1_5 a1_6 a1_7 a1_8 l1_9) = some r := by rw [if_neg (show ¬ (false = true) by decide)] at H; exact H
        clear H
        have H := H1
        clear H1
        have H' := Aside0.mk H
        clear H
        go_wp2
        repeat (go_quiet (fail); try go_wp2)
        go_loopg [5] kj2 (fun kq v5 w' => ∃ (x5_2 : Int), v5 = .int .i64 x5_2 ∧ Aside0 (spec_OrderSame.l0 kq x5_2 a0_0 a0_1 a0_2 a0_3 l0_4 a0_5 a0_6 a0_7 a0_8 l0_9 a1_0 a1_1 a1_2 a1_3 l1_4 a1_5 a1_6 a1_7 a1_8 l1_9 = some r) ∧ Aside0 (kq ≤ kj2) ∧ Aside0 (w'.heap[gb447]? = some (.cells #[.string a0_0, .string a0_1, .int .i64 a0_2, .int .i64 a0_3, (.slice A0_4 l0_4.length c0_4), .int .i64 a0_5, .int .i64 a0_6, .int .i64 a0_7, .int .i64 a0_8, (.slice A0_9 l0_9.length c0_9)] 65 (0, 0))) ∧ Aside0 (w'.heap[gb448]? = some (.cells #[.string a1_0, .string a1_1, .int .i64 a1_2, .int .i64 a1_3, (.slice A1_4 l1_4.length c1_4), .int .i64 a1_5, .int .i64 a1_6, .int .i64 a1_7, .int .i64 a1_8, (.slice A1_9 l1_9.length c1_9)] 65 (0, 0))) ∧ Aside0 (Below w.heap.size w w'))
        case atStart => exact ⟨(0), (by first | rfl | (simp; done) | (simp [*]; done)), H', ⟨Nat.le_refl _⟩, ⟨by (with_reducible repeat (first | refine blk_drewN ?_ _ | refine blk_drew ?_ | refine blk_alloc ?_ _)); exact BK447.out⟩, ⟨by (with_reducible repeat (first | refine blk_drewN ?_ _ | refine blk_drew ?_ | refine blk_alloc ?_ _)); exact BK448.out⟩, ⟨by repeat (first | (with_reducible first | exact HB.out | apply below_alloc | apply pw_below_drewN | apply below_drew1 | refine below_set ?_ GE447.out | refine below_set ?_ GE448.out) | exact HB.out)⟩⟩
        case round =>
          clear H'
          try clear c1
          try clear c2
          try clear p2
          try clear c3
          try clear c6
          try clear c6b0
          try clear c6b1
          try clear c7
          try clear c7b0
          try clear c7b1
          try clear c8
          try clear c8b0
          try clear c8b1
          try clear c9
          try clear c9b0
          try clear c9b1
          try clear c10
          try clear c10b0
          try clear c11
          try clear c14
          try clear c14b0
          try clear c14b1
          try clear c14b2
          try clear c15
          try clear c18
          try clear c21
          try clear c24
          try clear c27
          try clear c30
          try clear c33
          try clear hcz12_0
          try clear hcz12_1
          try clear hcz12_2
          try clear hcz12_3
          try clear hcz12_4
          try clear hcz12_5
          try clear hcz12_6
          try clear hcz12_7
          try clear hcz12_8
          try clear hcz12_9
          try clear hcz13_0
          try clear hcz13_1
          try clear hcz13_2
          try clear hcz13_3
          try clear hcz13_4
          try clear hcz13_5
          try clear hcz13_6
          try clear hcz13_7
          try clear hcz13_8
          try clear hcz13_9
          try clear hcz16_0
          try clear hcz16_1
          try clear hcz16_2
          try clear hcz16_3
          try clear hcz16_4
          try clear hcz16_5
          try clear hcz16_6
          try clear hcz16_7
          try clear hcz16_8
          try clear hcz16_9
          try clear hcz17_0
          try clear hcz17_1
          try clear hcz17_2
          try clear hcz17_3
          try clear hcz17_4
          try clear hcz17_5
          try clear hcz17_6
          try clear hcz17_7
          try clear hcz17_8
          try clear hcz17_9
          try clear hcz19_0
          try clear hcz19_1
          try clear hcz19_2
          try clear hcz19_3
          try clear hcz19_4
          try clear hcz19_5
          try clear hcz19_6
          try clear hcz19_7
          try clear hcz19_8
          try clear hcz19_9
          try clear hcz20_0
          try clear hcz20_1
          try clear hcz20_2
          try clear hcz20_3
          try clear hcz20_4
          try clear hcz20_5
          try clear hcz20_6
          try clear hcz20_7
          try clear hcz20_8
          try clear hcz20_9
          try clear hcz22_0
          try clear hcz22_1
          try clear hcz22_2
          try clear hcz22_3
          try clear hcz22_4
          try clear hcz22_5
          try clear hcz22_6
          try clear hcz22_7
          try clear hcz22_8
          try clear hcz22_9
          try clear hcz23_0
          try clear hcz23_1
          try clear hcz23_2
          try clear hcz23_3
          try clear hcz23_4
          try clear hcz23_5
          try clear hcz23_6
          try clear hcz23_7
          try clear hcz23_8
          try clear hcz23_9
          try clear hcz25_0
          try clear hcz25_1
          try clear hcz25_2
          try clear hcz25_3
          try clear hcz25_4
          try clear hcz25_5
          try clear hcz25_6
          try clear hcz25_7
          try clear hcz25_8
          try clear hcz25_9
          try clear hcz26_0
          try clear hcz26_1
          try clear hcz26_2
          try clear hcz26_3
          try clear hcz26_4
          try clear hcz26_5
          try clear hcz26_6
          try clear hcz26_7
          try clear hcz26_8
          try clear hcz26_9
          try clear hcz28_0
          try clear hcz28_1
          try clear hcz28_2
          try clear hcz28_3
          try clear hcz28_4
          try clear hcz28_5
          try clear hcz28_6
          try clear hcz28_7
          try clear hcz28_8
          try clear hcz28_9
          try clear hcz29_0
          try clear hcz29_1
          try clear hcz29_2
          try clear hcz29_3
          try clear hcz29_4
          try clear hcz29_5
          try clear hcz29_6
          try clear hcz29_7
          try clear hcz29_8
          try clear hcz29_9
          try clear hcz31_0
          try clear hcz31_1
          try clear hcz31_2
          try clear hcz31_3
          try clear hcz31_4
          try clear hcz31_5
          try clear hcz31_6
          try clear hcz31_7
          try clear hcz31_8
          try clear hcz31_9
          try clear hcz32_0
          try clear hcz32_1
          try clear hcz32_2
          try clear hcz32_3
          try clear hcz32_4
          try clear hcz32_5
          try clear hcz32_6
          try clear hcz32_7
          try clear hcz32_8
          try clear hcz32_9
          try clear hfz12_0
          try clear hfz12_1
          try clear hfz12_2
          try clear hfz12_3
          try clear hfz12_4
          try clear hfz12_5
          try clear hfz12_6
          try clear hfz12_7
          try clear hfz12_8
          try clear hfz12_9
          try clear hfz13_0
          try clear hfz13_1
          try clear hfz13_2
          try clear hfz13_3
          try clear hfz13_4
          try clear hfz13_5
          try clear hfz13_6
          try clear hfz13_7
          try clear hfz13_8
          try clear hfz13_9
          try clear hfz16_0
          try clear hfz16_1
          try clear hfz16_2
          try clear hfz16_3
          try clear hfz16_4
          try clear hfz16_5
          try clear hfz16_6
          try clear hfz16_7
          try clear hfz16_8
          try clear hfz16_9
          try clear hfz17_0
          try clear hfz17_1
          try clear hfz17_2
          try clear hfz17_3
          try clear hfz17_4
          try clear hfz17_5
          try clear hfz17_6
          try clear hfz17_7
          try clear hfz17_8
          try clear hfz17_9
          try clear hfz19_0
          try clear hfz19_1
          try clear hfz19_2
          try clear hfz19_3
          try clear hfz19_4
          try clear hfz19_5
          try clear hfz19_6
          try clear hfz19_7
          try clear hfz19_8
          try clear hfz19_9
          try clear hfz20_0
          try clear hfz20_1
          try clear hfz20_2
          try clear hfz20_3
          try clear hfz20_4
          try clear hfz20_5
          try clear hfz20_6
          try clear hfz20_7
          try clear hfz20_8
          try clear hfz20_9
          try clear hfz22_0
          try clear hfz22_1
          try clear hfz22_2
          try clear hfz22_3
          try clear hfz22_4
          try clear hfz22_5
          try clear hfz22_6
          try clear hfz22_7
          try clear hfz22_8
          try clear hfz22_9
          try clear hfz23_0
          try clear hfz23_1
          try clear hfz23_2
          try clear hfz23_3
          try clear hfz23_4
          try clear hfz23_5
          try clear hfz23_6
          try clear hfz23_7
          try clear hfz23_8
          try clear hfz23_9
          try clear hfz25_0
          try clear hfz25_1
          try clear hfz25_2
          try clear hfz25_3
          try clear hfz25_4
          try clear hfz25_5
          try clear hfz25_6
          try clear hfz25_7
          try clear hfz25_8
          try clear hfz25_9
          try clear hfz26_0
          try clear hfz26_1
          try clear hfz26_2
          try clear hfz26_3
          try clear hfz26_4
          try clear hfz26_5
          try clear hfz26_6
          try clear hfz26_7
          try clear hfz26_8
          try clear hfz26_9
          try clear hfz28_0
          try clear hfz28_1
          try clear hfz28_2
          try clear hfz28_3
          try clear hfz28_4
          try clear hfz28_5
          try clear hfz28_6
          try clear hfz28_7
          try clear hfz28_8
          try clear hfz28_9
          try clear hfz29_0
          try clear hfz29_1
          try clear hfz29_2
          try clear hfz29_3
          try clear hfz29_4
          try clear hfz29_5
          try clear hfz29_6
          try clear hfz29_7
          try clear hfz29_8
          try clear hfz29_9
          try clear hfz31_0
          try clear hfz31_1
          try clear hfz31_2
          try clear hfz31_3
          try clear hfz31_4
          try clear hfz31_5
          try clear hfz31_6
          try clear hfz31_7
          try clear hfz31_8
          try clear hfz31_9
          try clear hfz32_0
          try clear hfz32_1
          try clear hfz32_2
          try clear hfz32_3
          try clear hfz32_4
          try clear hfz32_5
          try clear hfz32_6
          try clear hfz32_7
          try clear hfz32_8
          try clear hfz32_9
          try clear p2
          obtain ⟨x5_2, rfl, HA, HK2, BK447, BK448, HB⟩ := hrel
          cases gk with
          | zero => exact absurd HA.out (by simp [spec_OrderSame.l0])
          | succ k2 =>
            have H := HA.out
            clear HA
            simp only [spec_OrderSame.l0] at H
            by_cases c34 : x5_2 < (l0_4.length : Int)
            · rw [if_pos c34] at H
              have c34b0 : decide (x5_2 < (l0_4.length : Int)) = true := decide_eq_true c34
              clear c34
              by_cases c35 : 0 ≤ x5_2
              · rw [if_pos c35] at H
                have c35b0 : decide (0 ≤ x5_2) = true := decide_eq_true c35
                clear c35
                by_cases c36 : x5_2 < (l1_4.length : Int)
                · rw [if_pos c36] at H
                  have c36b0 : decide (x5_2 < (l1_4.length : Int)) = true := decide_eq_true c36
                  clear c36
                  by_cases c37 : (!((((rd_T35 l0_4 x5_2).f0).toList) == (((rd_T35 l1_4 x5_2).f0).toList)) || (!(((rd_T35 l0_4 x5_2).f1) == ((rd_T35 l1_4 x5_2).f1)) || (!(((rd_T35 l0_4 x5_2).f2) == ((rd_T35 l1_4 x5_2).f2))))) = true
                  · rw [if_pos c37] at H
                    have c37b0 : (!((((rd_T35 l0_4 x5_2).f0).toList) == (((rd_T35 l1_4 x5_2).f0).toList)) || (!(((rd_T35 l0_4 x5_2).f1) == ((rd_T35 l1_4 x5_2).f1)) || (!(((rd_T35 l0_4 x5_2).f2) == ((rd_T35 l1_4 x5_2).f2))))) = true := c37
                    clear c37
                    obtain rfl := Option.some.inj H
                    have hnb38 := NB447_448.out
                    have hnc38 := NB448_447.out
                    have hcz39_0 : wr.cell? ⟨gb447, 0, none⟩ = some (.string a0_0) := (blk_cell BK447.out 0).trans rfl
                    have hcz39_1 : wr.cell? ⟨gb447, 1, none⟩ = some (.string a0_1) := (blk_cell BK447.out 1).trans rfl
                    have hcz39_2 : wr.cell? ⟨gb447, 2, none⟩ = some (.int .i64 a0_2) := (blk_cell BK447.out 2).trans rfl
                    have hcz39_3 : wr.cell? ⟨gb447, 3, none⟩ = some (.int .i64 a0_3) := (blk_cell BK447.out 3).trans rfl
                    have hcz39_4 : wr.cell? ⟨gb447, 4, none⟩ = some (.slice A0_4 l0_4.length c0_4) := (blk_cell BK447.out 4).trans rfl
                    have hcz39_5 : wr.cell? ⟨gb447, 5, none⟩ = some (.int .i64 a0_5) := (blk_cell BK447.out 5).trans rfl
                    have hcz39_6 : wr.cell? ⟨gb447, 6, none⟩ = some (.int .i64 a0_6) := (blk_cell BK447.out 6).trans rfl
                    have hcz39_7 : wr.cell? ⟨gb447, 7, none⟩ = some (.int .i64 a0_7) := (blk_cell BK447.out 7).trans rfl
                    have hcz39_8 : wr.cell? ⟨gb447, 8, none⟩ = some (.int .i64 a0_8) := (blk_cell BK447.out 8).trans rfl
                    have hcz39_9 : wr.cell? ⟨gb447, 9, none⟩ = some (.slice A0_9 l0_9.length c0_9) := (blk_cell BK447.out 9).trans rfl
                    have hfz39_0 := blk_frozen BK447.out 0
                    have hfz39_1 := blk_frozen BK447.out 1
                    have hfz39_2 := blk_frozen BK447.out 2
                    have hfz39_3 := blk_frozen BK447.out 3
                    have hfz39_4 := blk_frozen BK447.out 4
                    have hfz39_5 := blk_frozen BK447.out 5
                    have hfz39_6 := blk_frozen BK447.out 6
                    have hfz39_7 := blk_frozen BK447.out 7
                    have hfz39_8 := blk_frozen BK447.out 8
                    have hfz39_9 := blk_frozen BK447.out 9
                    have p449 : 0 ≤ (x5_2 : Int) := of_decide_eq_true (by first | (with_reducible assumption) | assumption)
                    have q449 : x5_2 < (l0_4.length : Int) := of_decide_eq_true (by first | (with_reducible assumption) | assumption)
                    obtain ⟨ad449, e449, hx449_0, hx449_1, hx449_2⟩ := at_T35 HR0_4.out x5_2 p449 q449
                    cases e449
                    replace hx449_0 := (HB.out.cell (World.block_lt_of_cell? w _ hx449_0)).trans hx449_0
                    replace hx449_1 := (HB.out.cell (World.block_lt_of_cell? w _ hx449_1)).trans hx449_1
                    replace hx449_2 := (HB.out.cell (World.block_lt_of_cell? w _ hx449_2)).trans hx449_2
                    replace p449 := eq_true p449
                    replace q449 := eq_true q449
                    have hcz40_0 : wr.cell? ⟨gb448, 0, none⟩ = some (.string a1_0) := (blk_cell BK448.out 0).trans rfl
                    have hcz40_1 : wr.cell? ⟨gb448, 1, none⟩ = some (.string a1_1) := (blk_cell BK448.out 1).trans rfl
                    have hcz40_2 : wr.cell? ⟨gb448, 2, none⟩ = some (.int .i64 a1_2) := (blk_cell BK448.out 2).trans rfl
                    have hcz40_3 : wr.cell? ⟨gb448, 3, none⟩ = some (.int .i64 a1_3) := (blk_cell BK448.out 3).trans rfl
                    have hcz40_4 : wr.cell? ⟨gb448, 4, none⟩ = some (.slice A1_4 l1_4.length c1_4) := (blk_cell BK448.out 4).trans rfl
                    have hcz40_5 : wr.cell? ⟨gb448, 5, none⟩ = some (.int .i64 a1_5) := (blk_cell BK448.out 5).trans rfl
                    have hcz40_6 : wr.cell? ⟨gb448, 6, none⟩ = some (.int .i64 a1_6) := (blk_cell BK448.out 6).trans rfl
                    have hcz40_7 : wr.cell? ⟨gb448, 7, none⟩ = some (.int .i64 a1_7) := (blk_cell BK448.out 7).trans rfl
                    have hcz40_8 : wr.cell? ⟨gb448, 8, none⟩ = some (.int .i64 a1_8) := (blk_cell BK448.out 8).trans rfl
                    have hcz40_9 : wr.cell? ⟨gb448, 9, none⟩ = some (.slice A1_9 l1_9.length c1_9) := (blk_cell BK448.out 9).trans rfl
                    have hfz40_0 := blk_frozen BK448.out 0
                    have hfz40_1 := blk_frozen BK448.out 1
                    have hfz40_2 := blk_frozen BK448.out 2
                    have hfz40_3 := blk_frozen BK448.out 3
                    have hfz40_4 := blk_frozen BK448.out 4
                    have hfz40_5 := blk_frozen BK448.out 5
                    have hfz40_6 := blk_frozen BK448.out 6
                    have hfz40_7 := blk_frozen BK448.out 7
                    have hfz40_8 := blk_frozen BK448.out 8
                    have hfz40_9 := blk_frozen BK448.out 9
                    have p450 : 0 ≤ (x5_2 : Int) := of_decide_eq_true (by first | (with_reducible assumption) | assumption)
                    have q450 : x5_2 < (l1_4.length : Int) := of_decide_eq_true (by first | (with_reducible assumption) | assumption)
                    obtain ⟨ad450, e450, hx450_0, hx450_1, hx450_2⟩ := at_T35 HR1_4.out x5_2 p450 q450
                    cases e450
                    replace hx450_0 := (HB.out.cell (World.block_lt_of_cell? w _ hx450_0)).trans hx450_0
                    replace hx450_1 := (HB.out.cell (World.block_lt_of_cell? w _ hx450_1)).trans hx450_1
                    replace hx450_2 := (HB.out.cell (World.block_lt_of_cell? w _ hx450_2)).trans hx450_2
                    replace p450 := eq_true p450
                    replace q450 := eq_true q450
                    go_wp2
                    repeat (go_quiet (fail); try go_wp2)
                    go_ret
                    exact ⟨by first | rfl | (simp [errW_none, errW_some] <;> rfl) | (simp [*, errW_none, errW_some] <;> rfl), by repeat (first | (with_reducible first | exact HB.out | apply below_alloc | apply pw_below_drewN | apply below_drew1 | refine below_set ?_ GE447.out | refine below_set ?_ GE448.out) | exact HB.out)⟩
                  · rw [if_neg c37] at H
                    have c37b0 : (!((((rd_T35 l0_4 x5_2).f0).toList) == (((rd_T35 l1_4 x5_2).f0).toList)) || (!(((rd_T35 l0_4 x5_2).f1) == ((rd_T35 l1_4 x5_2).f1)) || (!(((rd_T35 l0_4 x5_2).f2) == ((rd_T35 l1_4 x5_2).f2))))) = false := by simpa using c37
                    clear c37
                    have H' := Aside0.mk H
                    clear H
                    have hnb41 := NB447_448.out
                    have hnc41 := NB448_447.out
                    have hcz42_0 : wr.cell? ⟨gb447, 0, none⟩ = some (.string a0_0) := (blk_cell BK447.out 0).trans rfl
                    have hcz42_1 : wr.cell? ⟨gb447, 1, none⟩ = some (.string a0_1) := (blk_cell BK447.out 1).trans rfl
                    have hcz42_2 : wr.cell? ⟨gb447, 2, none⟩ = some (.int .i64 a0_2) := (blk_cell BK447.out 2).trans rfl
                    have hcz42_3 : wr.cell? ⟨gb447, 3, none⟩ = some (.int .i64 a0_3) := (blk_cell BK447.out 3).trans rfl
                    have hcz42_4 : wr.cell? ⟨gb447, 4, none⟩ = some (.slice A0_4 l0_4.length c0_4) := (blk_cell BK447.out 4).trans rfl
                    have hcz42_5 : wr.cell? ⟨gb447, 5, none⟩ = some (.int .i64 a0_5) := (blk_cell BK447.out 5).trans rfl
                    have hcz42_6 : wr.cell? ⟨gb447, 6, none⟩ = some (.int .i64 a0_6) := (blk_cell BK447.out 6).trans rfl
                    have hcz42_7 : wr.cell? ⟨gb447, 7, none⟩ = some (.int .i64 a0_7) := (blk_cell BK447.out 7).trans rfl
                    have hcz42_8 : wr.cell? ⟨gb447, 8, none⟩ = some (.int .i64 a0_8) := (blk_cell BK447.out 8).trans rfl
                    have hcz42_9 : wr.cell? ⟨gb447, 9, none⟩ = some (.slice A0_9 l0_9.length c0_9) := (blk_cell BK447.out 9).trans rfl
                    have hfz42_0 := blk_frozen BK447.out 0
                    have hfz42_1 := blk_frozen BK447.out 1
                    have hfz42_2 := blk_frozen BK447.out 2
                    have hfz42_3 := blk_frozen BK447.out 3
                    have hfz42_4 := blk_frozen BK447.out 4
                    have hfz42_5 := blk_frozen BK447.out 5
                    have hfz42_6 := blk_frozen BK447.out 6
                    have hfz42_7 := blk_frozen BK447.out 7
                    have hfz42_8 := blk_frozen BK447.out 8
                    have hfz42_9 := blk_frozen BK447.out 9
                    have p449 : 0 ≤ (x5_2 : Int) := of_decide_eq_true (by first | (with_reducible assumption) | assumption)
                    have q449 : x5_2 < (l0_4.length : Int) := of_decide_eq_true (by first | (with_reducible assumption) | assumption)
                    obtain ⟨ad449, e449, hx449_0, hx449_1, hx449_2⟩ := at_T35 HR0_4.out x5_2 p449 q449
                    cases e449
                    replace hx449_0 := (HB.out.cell (World.block_lt_of_cell? w _ hx449_0)).trans hx449_0
                    replace hx449_1 := (HB.out.cell (World.block_lt_of_cell? w _ hx449_1)).trans hx449_1
                    replace hx449_2 := (HB.out.cell (World.block_lt_of_cell? w _ hx449_2)).trans hx449_2
                    replace p449 := eq_true p449
                    replace q449 := eq_true q449
                    have hcz43_0 : wr.cell? ⟨gb448, 0, none⟩ = some (.string a1_0) := (blk_cell BK448.out 0).trans rfl
                    have hcz43_1 : wr.cell? ⟨gb448, 1, none⟩ = some (.string a1_1) := (blk_cell BK448.out 1).trans rfl
                    have hcz43_2 : wr.cell? ⟨gb448, 2, none⟩ = some (.int .i64 a1_2) := (blk_cell BK448.out 2).trans rfl
                    have hcz43_3 : wr.cell? ⟨gb448, 3, none⟩ = some (.int .i64 a1_3) := (blk_cell BK448.out 3).trans rfl
                    have hcz43_4 : wr.cell? ⟨gb448, 4, none⟩ = some (.slice A1_4 l1_4.length c1_4) := (blk_cell BK448.out 4).trans rfl
                    have hcz43_5 : wr.cell? ⟨gb448, 5, none⟩ = some (.int .i64 a1_5) := (blk_cell BK448.out 5).trans rfl
                    have hcz43_6 : wr.cell? ⟨gb448, 6, none⟩ = some (.int .i64 a1_6) := (blk_cell BK448.out 6).trans rfl
                    have hcz43_7 : wr.cell? ⟨gb448, 7, none⟩ = some (.int .i64 a1_7) := (blk_cell BK448.out 7).trans rfl
                    have hcz43_8 : wr.cell? ⟨gb448, 8, none⟩ = some (.int .i64 a1_8) := (blk_cell BK448.out 8).trans rfl
                    have hcz43_9 : wr.cell? ⟨gb448, 9, none⟩ = some (.slice A1_9 l1_9.length c1_9) := (blk_cell BK448.out 9).trans rfl
                    have hfz43_0 := blk_frozen BK448.out 0
                    have hfz43_1 := blk_frozen BK448.out 1
                    have hfz43_2 := blk_frozen BK448.out 2
                    have hfz43_3 := blk_frozen BK448.out 3
                    have hfz43_4 := blk_frozen BK448.out 4
                    have hfz43_5 := blk_frozen BK448.out 5
                    have hfz43_6 := blk_frozen BK448.out 6
                    have hfz43_7 := blk_frozen BK448.out 7
                    have hfz43_8 := blk_frozen BK448.out 8
                    have hfz43_9 := blk_frozen BK448.out 9
                    have p450 : 0 ≤ (x5_2 : Int) := of_decide_eq_true (by first | (with_reducible assumption) | assumption)
                    have q450 : x5_2 < (l1_4.length : Int) := of_decide_eq_true (by first | (with_reducible assumption) | assumption)
                    obtain ⟨ad450, e450, hx450_0, hx450_1, hx450_2⟩ := at_T35 HR1_4.out x5_2 p450 q450
                    cases e450
                    replace hx450_0 := (HB.out.cell (World.block_lt_of_cell? w _ hx450_0)).trans hx450_0
                    replace hx450_1 := (HB.out.cell (World.block_lt_of_cell? w _ hx450_1)).trans hx450_1
                    replace hx450_2 := (HB.out.cell (World.block_lt_of_cell? w _ hx450_2)).trans hx450_2
                    replace p450 := eq_true p450
                    replace q450 := eq_true q450
                    go_wp2
                    repeat (go_quiet (fail); try go_wp2)
                    go_roundg k2
                    case measure => have := HJ2.out; have := HK2.out; omega
                    case rel => exact ⟨(wrap64 (x5_2 + 1)), (by first | rfl | (simp; done) | (simp [*]; done)), H', ⟨by have := HJ2.out; have := HK2.out; omega⟩, ⟨by (with_reducible repeat (first | refine blk_drewN ?_ _ | refine blk_drew ?_ | refine blk_alloc ?_ _)); exact BK447.out⟩, ⟨by (with_reducible repeat (first | refine blk_drewN ?_ _ | refine blk_drew ?_ | refine blk_alloc ?_ _)); exact BK448.out⟩, ⟨by repeat (first | (with_reducible first | exact HB.out | apply below_alloc | apply pw_below_drewN | apply below_drew1 | refine below_set ?_ GE447.out | refine below_set ?_ GE448.out) | exact HB.out)⟩⟩
                · rw [if_neg c36] at H
                  exact absurd H (by simp)
              · rw [if_neg c35] at H
                exact absurd H (by simp)
            · rw [if_neg c34] at H
              have c34b0 : decide (x5_2 < (l0_4.length : Int)) = false := decide_eq_false c34
              clear c34
              have H' := Aside0.mk H
              clear H
              have hnb44 := NB447_448.out
              have hnc44 := NB448_447.out
              have hcz45_0 : wr.cell? ⟨gb447, 0, none⟩ = some (.string a0_0) := (blk_cell BK447.out 0).trans rfl
              have hcz45_1 : wr.cell? ⟨gb447, 1, none⟩ = some (.string a0_1) := (blk_cell BK447.out 1).trans rfl
              have hcz45_2 : wr.cell? ⟨gb447, 2, none⟩ = some (.int .i64 a0_2) := (blk_cell BK447.out 2).trans rfl
              have hcz45_3 : wr.cell? ⟨gb447, 3, none⟩ = some (.int .i64 a0_3) := (blk_cell BK447.out 3).trans rfl
              have hcz45_4 : wr.cell? ⟨gb447, 4, none⟩ = some (.slice A0_4 l0_4.length c0_4) := (blk_cell BK447.out 4).trans rfl
              have hcz45_5 : wr.cell? ⟨gb447, 5, none⟩ = some (.int .i64 a0_5) := (blk_cell BK447.out 5).trans rfl
              have hcz45_6 : wr.cell? ⟨gb447, 6, none⟩ = some (.int .i64 a0_6) := (blk_cell BK447.out 6).trans rfl
              have hcz45_7 : wr.cell? ⟨gb447, 7, none⟩ = some (.int .i64 a0_7) := (blk_cell BK447.out 7).trans rfl
              have hcz45_8 : wr.cell? ⟨gb447, 8, none⟩ = some (.int .i64 a0_8) := (blk_cell BK447.out 8).trans rfl
              have hcz45_9 : wr.cell? ⟨gb447, 9, none⟩ = some (.slice A0_9 l0_9.length c0_9) := (blk_cell BK447.out 9).trans rfl
              have hfz45_0 := blk_frozen BK447.out 0
              have hfz45_1 := blk_frozen BK447.out 1
              have hfz45_2 := blk_frozen BK447.out 2
              have hfz45_3 := blk_frozen BK447.out 3
              have hfz45_4 := blk_frozen BK447.out 4
              have hfz45_5 := blk_frozen BK447.out 5
              have hfz45_6 := blk_frozen BK447.out 6
              have hfz45_7 := blk_frozen BK447.out 7
              have hfz45_8 := blk_frozen BK447.out 8
              have hfz45_9 := blk_frozen BK447.out 9
              go_wp2
              repeat (go_quiet (fail); try go_wp2)
              go_loopg [6] k2 (fun kq v6 w' => ∃ (x6_3 : Int), v6 = .int .i64 x6_3 ∧ Aside0 (spec_OrderSame.l1 kq x6_3 a0_0 a0_1 a0_2 a0_3 l0_4 a0_5 a0_6 a0_7 a0_8 l0_9 a1_0 a1_1 a1_2 a1_3 l1_4 a1_5 a1_6 a1_7 a1_8 l1_9 = some r) ∧ Aside0 (kq ≤ k2) ∧ Aside0 (w'.heap[gb447]? = some (.cells #[.string a0_0, .string a0_1, .int .i64 a0_2, .int .i64 a0_3, (.slice A0_4 l0_4.length c0_4), .int .i64 a0_5, .int .i64 a0_6, .int .i64 a0_7, .int .i64 a0_8, (.slice A0_9 l0_9.length c0_9)] 65 (0, 0))) ∧ Aside0 (w'.heap[gb448]? = some (.cells #[.string a1_0, .string a1_1, .int .i64 a1_2, .int .i64 a1_3, (.slice A1_4 l1_4.length c1_4), .int .i64 a1_5, .int .i64 a1_6, .int .i64 a1_7, .int .i64 a1_8, (.slice A1_9 l1_9.length c1_9)] 65 (0, 0))) ∧ Aside0 (Below w.heap.size w w'))
              case atStart => exact ⟨(0), (by first | rfl | (simp; done) | (simp [*]; done)), H', ⟨Nat.le_refl _⟩, ⟨by (with_reducible repeat (first | refine blk_drewN ?_ _ | refine blk_drew ?_ | refine blk_alloc ?_ _)); exact BK447.out⟩, ⟨by (with_reducible repeat (first | refine blk_drewN ?_ _ | refine blk_drew ?_ | refine blk_alloc ?_ _)); exact BK448.out⟩, ⟨by repeat (first | (with_reducible first | exact HB.out | apply below_alloc | apply pw_below_drewN | apply below_drew1 | refine below_set ?_ GE447.out | refine below_set ?_ GE448.out) | exact HB.out)⟩⟩
              case round =>
                clear H'
                try clear c1
                try clear c2
                try clear p2
                try clear c3
                try clear c4
                try clear p4
                try clear q4
                try clear hx4
                try clear c6
                try clear c6b0
                try clear c6b1
                try clear p6
                try clear c7
                try clear c7b0
                try clear c7b1
                try clear c8
                try clear c8b0
                try clear c8b1
                try clear c9
                try clear c9b0
                try clear c9b1
                try clear c10
                try clear c10b0
                try clear c11
                try clear c14
                try clear c14b0
                try clear c14b1
                try clear c14b2
                try clear c15
                try clear c18
                try clear c21
                try clear c24
                try clear c27
                try clear c30
                try clear c33
                try clear c34
                try clear c34b0
                try clear c35
                try clear c35b0
                try clear c36
                try clear c36b0
                try clear c37
                try clear c37b0
                try clear c38
                try clear c41
                try clear c44
                try clear p44
                try clear q44
                try clear hx44
                try clear p45
                try clear q45
                try clear hx45
                try clear hcz12_0
                try clear hcz12_1
                try clear hcz12_2
                try clear hcz12_3
                try clear hcz12_4
                try clear hcz12_5
                try clear hcz12_6
                try clear hcz12_7
                try clear hcz12_8
                try clear hcz12_9
                try clear hcz13_0
                try clear hcz13_1
                try clear hcz13_2
                try clear hcz13_3
                try clear hcz13_4
                try clear hcz13_5
                try clear hcz13_6
                try clear hcz13_7
                try clear hcz13_8
                try clear hcz13_9
                try clear hcz16_0
                try clear hcz16_1
                try clear hcz16_2
                try clear hcz16_3
                try clear hcz16_4
                try clear hcz16_5
                try clear hcz16_6
                try clear hcz16_7
                try clear hcz16_8
                try clear hcz16_9
                try clear hcz17_0
                try clear hcz17_1
                try clear hcz17_2
                try clear hcz17_3
                try clear hcz17_4
                try clear hcz17_5
                try clear hcz17_6
                try clear hcz17_7
                try clear hcz17_8
                try clear hcz17_9
                try clear hcz19_0
                try clear hcz19_1
                try clear hcz19_2
                try clear hcz19_3
                try clear hcz19_4
                try clear hcz19_5
                try clear hcz19_6
                try clear hcz19_7
                try clear hcz19_8
                try clear hcz19_9
                try clear hcz20_0
                try clear hcz20_1
                try clear hcz20_2
                try clear hcz20_3
                try clear hcz20_4
                try clear hcz20_5
                try clear hcz20_6
                try clear hcz20_7
                try clear hcz20_8
                try clear hcz20_9
                try clear hcz22_0
                try clear hcz22_1
                try clear hcz22_2
                try clear hcz22_3
                try clear hcz22_4
                try clear hcz22_5
                try clear hcz22_6
                try clear hcz22_7
                try clear hcz22_8
                try clear hcz22_9
                try clear hcz23_0
                try clear hcz23_1
                try clear hcz23_2
                try clear hcz23_3
                try clear hcz23_4
                try clear hcz23_5
                try clear hcz23_6
                try clear hcz23_7
                try clear hcz23_8
                try clear hcz23_9
                try clear hcz25_0
                try clear hcz25_1
                try clear hcz25_2
                try clear hcz25_3
                try clear hcz25_4
                try clear hcz25_5
                try clear hcz25_6
                try clear hcz25_7
                try clear hcz25_8
                try clear hcz25_9
                try clear hcz26_0
                try clear hcz26_1
                try clear hcz26_2
                try clear hcz26_3
                try clear hcz26_4
                try clear hcz26_5
                try clear hcz26_6
                try clear hcz26_7
                try clear hcz26_8
                try clear hcz26_9
                try clear hcz28_0
                try clear hcz28_1
                try clear hcz28_2
                try clear hcz28_3
                try clear hcz28_4
                try clear hcz28_5
                try clear hcz28_6
                try clear hcz28_7
                try clear hcz28_8
                try clear hcz28_9
                try clear hcz29_0
                try clear hcz29_1
                try clear hcz29_2
                try clear hcz29_3
                try clear hcz29_4
                try clear hcz29_5
                try clear hcz29_6
                try clear hcz29_7
                try clear hcz29_8
                try clear hcz29_9
                try clear hcz31_0
                try clear hcz31_1
                try clear hcz31_2
                try clear hcz31_3
                try clear hcz31_4
                try clear hcz31_5
                try clear hcz31_6
                try clear hcz31_7
                try clear hcz31_8
                try clear hcz31_9
                try clear hcz32_0
                try clear hcz32_1
                try clear hcz32_2
                try clear hcz32_3
                try clear hcz32_4
                try clear hcz32_5
                try clear hcz32_6
                try clear hcz32_7
                try clear hcz32_8
                try clear hcz32_9
                try clear hcz39_0
                try clear hcz39_1
                try clear hcz39_2
                try clear hcz39_3
                try clear hcz39_4
                try clear hcz39_5
                try clear hcz39_6
                try clear hcz39_7
                try clear hcz39_8
                try clear hcz39_9
                try clear hcz40_0
                try clear hcz40_1
                try clear hcz40_2
                try clear hcz40_3
                try clear hcz40_4
                try clear hcz40_5
                try clear hcz40_6
                try clear hcz40_7
                try clear hcz40_8
                try clear hcz40_9
                try clear hcz42_0
                try clear hcz42_1
                try clear hcz42_2
                try clear hcz42_3
                try clear hcz42_4
                try clear hcz42_5
                try clear hcz42_6
                try clear hcz42_7
                try clear hcz42_8
                try clear hcz42_9
                try clear hcz43_0
                try clear hcz43_1
                try clear hcz43_2
                try clear hcz43_3
                try clear hcz43_4
                try clear hcz43_5
                try clear hcz43_6
                try clear hcz43_7
                try clear hcz43_8
                try clear hcz43_9
                try clear hcz45_0
                try clear hcz45_1
                try clear hcz45_2
                try clear hcz45_3
                try clear hcz45_4
                try clear hcz45_5
                try clear hcz45_6
                try clear hcz45_7
                try clear hcz45_8
                try clear hcz45_9
                try clear hfz12_0
                try clear hfz12_1
                try clear hfz12_2
                try clear hfz12_3
                try clear hfz12_4
                try clear hfz12_5
                try clear hfz12_6
                try clear hfz12_7
                try clear hfz12_8
                try clear hfz12_9
                try clear hfz13_0
                try clear hfz13_1
                try clear hfz13_2
                try clear hfz13_3
                try clear hfz13_4
                try clear hfz13_5
                try clear hfz13_6
                try clear hfz13_7
                try clear hfz13_8
                try clear hfz13_9
                try clear hfz16_0
                try clear hfz16_1
                try clear hfz16_2
                try clear hfz16_3
                try clear hfz16_4
                try clear hfz16_5
                try clear hfz16_6
                try clear hfz16_7
                try clear hfz16_8
                try clear hfz16_9
                try clear hfz17_0
                try clear hfz17_1
                try clear hfz17_2
                try clear hfz17_3
                try clear hfz17_4
                try clear hfz17_5
                try clear hfz17_6
                try clear hfz17_7
                try clear hfz17_8
                try clear hfz17_9
                try clear hfz19_0
                try clear hfz19_1
                try clear hfz19_2
                try clear hfz19_3
                try clear hfz19_4
                try clear hfz19_5
                try clear hfz19_6
                try clear hfz19_7
                try clear hfz19_8
                try clear hfz19_9
                try clear hfz20_0
                try clear hfz20_1
                try clear hfz20_2
                try clear hfz20_3
                try clear hfz20_4
                try clear hfz20_5
                try clear hfz20_6
                try clear hfz20_7
                try clear hfz20_8
                try clear hfz20_9
                try clear hfz22_0
                try clear hfz22_1
                try clear hfz22_2
                try clear hfz22_3
                try clear hfz22_4
                try clear hfz22_5
                try clear hfz22_6
                try clear hfz22_7
                try clear hfz22_8
                try clear hfz22_9
                try clear hfz23_0
                try clear hfz23_1
                try clear hfz23_2
                try clear hfz23_3
                try clear hfz23_4
                try clear hfz23_5
                try clear hfz23_6
                try clear hfz23_7
                try clear hfz23_8
                try clear hfz23_9
                try clear hfz25_0
                try clear hfz25_1
                try clear hfz25_2
                try clear hfz25_3
                try clear hfz25_4
                try clear hfz25_5
                try clear hfz25_6
                try clear hfz25_7
                try clear hfz25_8
                try clear hfz25_9
                try clear hfz26_0
                try clear hfz26_1
                try clear hfz26_2
                try clear hfz26_3
                try clear hfz26_4
                try clear hfz26_5
                try clear hfz26_6
                try clear hfz26_7
                try clear hfz26_8
                try clear hfz26_9
                try clear hfz28_0
                try clear hfz28_1
                try clear hfz28_2
                try clear hfz28_3
                try clear hfz28_4
                try clear hfz28_5
                try clear hfz28_6
                try clear hfz28_7
                try clear hfz28_8
                try clear hfz28_9
                try clear hfz29_0
                try clear hfz29_1
                try clear hfz29_2
                try clear hfz29_3
                try clear hfz29_4
                try clear hfz29_5
                try clear hfz29_6
                try clear hfz29_7
                try clear hfz29_8
                try clear hfz29_9
                try clear hfz31_0
                try clear hfz31_1
                try clear hfz31_2
                try clear hfz31_3
                try clear hfz31_4
                try clear hfz31_5
                try clear hfz31_6
                try clear hfz31_7
                try clear hfz31_8
                try clear hfz31_9
                try clear hfz32_0
                try clear hfz32_1
                try clear hfz32_2
                try clear hfz32_3
                try clear hfz32_4
                try clear hfz32_5
                try clear hfz32_6
                try clear hfz32_7
                try clear hfz32_8
                try clear hfz32_9
                try clear hfz39_0
                try clear hfz39_1
                try clear hfz39_2
                try clear hfz39_3
                try clear hfz39_4
                try clear hfz39_5
                try clear hfz39_6
                try clear hfz39_7
                try clear hfz39_8
                try clear hfz39_9
                try clear hfz40_0
                try clear hfz40_1
                try clear hfz40_2
                try clear hfz40_3
                try clear hfz40_4
                try clear hfz40_5
                try clear hfz40_6
                try clear hfz40_7
                try clear hfz40_8
                try clear hfz40_9
                try clear hfz42_0
                try clear hfz42_1
                try clear hfz42_2
                try clear hfz42_3
                try clear hfz42_4
                try clear hfz42_5
                try clear hfz42_6
                try clear hfz42_7
                try clear hfz42_8
                try clear hfz42_9
                try clear hfz43_0
                try clear hfz43_1
                try clear hfz43_2
                try clear hfz43_3
                try clear hfz43_4
                try clear hfz43_5
                try clear hfz43_6
                try clear hfz43_7
                try clear hfz43_8
                try clear hfz43_9
                try clear hfz45_0
                try clear hfz45_1
                try clear hfz45_2
                try clear hfz45_3
                try clear hfz45_4
                try clear hfz45_5
                try clear hfz45_6
                try clear hfz45_7
                try clear hfz45_8
                try clear hfz45_9
                try clear hx449_0
                try clear hx449_1
                try clear hx449_2
                try clear hx450_0
                try clear hx450_1
                try clear hx450_2
                try clear p2
                try clear p449
                try clear p450
                try clear q449
                try clear q450
                obtain ⟨x6_3, rfl, HA, HK3, BK447, BK448, HB⟩ := hrel
                cases gk with
                | zero => exact absurd HA.out (by simp [spec_OrderSame.l1])
                | succ k3 =>
                  have H := HA.out
                  clear HA
                  simp only [spec_OrderSame.l1] at H
                  by_cases c46 : x6_3 < (l0_9.length : Int)
                  · rw [if_pos c46] at H
                    have c46b0 : decide (x6_3 < (l0_9.length : Int)) = true := decide_eq_true c46
                    clear c46
                    by_cases c47 : 0 ≤ x6_3
                    · rw [if_pos c47] at H
                      have c47b0 : decide (0 ≤ x6_3) = true := decide_eq_true c47
                      clear c47
                      by_cases c48 : x6_3 < (l1_9.length : Int)
                      · rw [if_pos c48] at H
                        have c48b0 : decide (x6_3 < (l1_9.length : Int)) = true := decide_eq_true c48
                        clear c48
                        by_cases c49 : (!((((rd_T94 l0_9 x6_3).f0).toList) == (((rd_T94 l1_9 x6_3).f0).toList)) || (!((((rd_T94 l0_9 x6_3).f1).toList) == (((rd_T94 l1_9 x6_3).f1).toList)))) = true
                        · rw [if_pos c49] at H
                          have c49b0 : (!((((rd_T94 l0_9 x6_3).f0).toList) == (((rd_T94 l1_9 x6_3).f0).toList)) || (!((((rd_T94 l0_9 x6_3).f1).toList) == (((rd_T94 l1_9 x6_3).f1).toList)))) = true := c49
                          clear c49
                          obtain rfl := Option.some.inj H
                          have hnb50 := NB447_448.out
                          have hnc50 := NB448_447.out
                          have hcz51_0 : wr.cell? ⟨gb447, 0, none⟩ = some (.string a0_0) := (blk_cell BK447.out 0).trans rfl
                          have hcz51_1 : wr.cell? ⟨gb447, 1, none⟩ = some (.string a0_1) := (blk_cell BK447.out 1).trans rfl
                          have hcz51_2 : wr.cell? ⟨gb447, 2, none⟩ = some (.int .i64 a0_2) := (blk_cell BK447.out 2).trans rfl
                          have hcz51_3 : wr.cell? ⟨gb447, 3, none⟩ = some (.int .i64 a0_3) := (blk_cell BK447.out 3).trans rfl
                          have hcz51_4 : wr.cell? ⟨gb447, 4, none⟩ = some (.slice A0_4 l0_4.length c0_4) := (blk_cell BK447.out 4).trans rfl
                          have hcz51_5 : wr.cell? ⟨gb447, 5, none⟩ = some (.int .i64 a0_5) := (blk_cell BK447.out 5).trans rfl
                          have hcz51_6 : wr.cell? ⟨gb447, 6, none⟩ = some (.int .i64 a0_6) := (blk_cell BK447.out 6).trans rfl
                          have hcz51_7 : wr.cell? ⟨gb447, 7, none⟩ = some (.int .i64 a0_7) := (blk_cell BK447.out 7).trans rfl
                          have hcz51_8 : wr.cell? ⟨gb447, 8, none⟩ = some (.int .i64 a0_8) := (blk_cell BK447.out 8).trans rfl
                          have hcz51_9 : wr.cell? ⟨gb447, 9, none⟩ = some (.slice A0_9 l0_9.length c0_9) := (blk_cell BK447.out 9).trans rfl
                          have hfz51_0 := blk_frozen BK447.out 0
                          have hfz51_1 := blk_frozen BK447.out 1
                          have hfz51_2 := blk_frozen BK447.out 2
                          have hfz51_3 := blk_frozen BK447.out 3
                          have hfz51_4 := blk_frozen BK447.out 4
                          have hfz51_5 := blk_frozen BK447.out 5
                          have hfz51_6 := blk_frozen BK447.out 6
                          have hfz51_7 := blk_frozen BK447.out 7
                          have hfz51_8 := blk_frozen BK447.out 8
                          have hfz51_9 := blk_frozen BK447.out 9
                          have p451 : 0 ≤ (x6_3 : Int) := of_decide_eq_true (by first | (with_reducible assumption) | assumption)
                          have q451 : x6_3 < (l0_9.length : Int) := of_decide_eq_true (by first | (with_reducible assumption) | assumption)
                          obtain ⟨ad451, e451, hx451_0, hx451_1⟩ := at_T94 HR0_9.out x6_3 p451 q451
                          cases e451
                          replace hx451_0 := (HB.out.cell (World.block_lt_of_cell? w _ hx451_0)).trans hx451_0
                          replace hx451_1 := (HB.out.cell (World.block_lt_of_cell? w _ hx451_1)).trans hx451_1
                          replace p451 := eq_true p451
                          replace q451 := eq_true q451
                          have hcz52_0 : wr.cell? ⟨gb448, 0, none⟩ = some (.string a1_0) := (blk_cell BK448.out 0).trans rfl
                          have hcz52_1 : wr.cell? ⟨gb448, 1, none⟩ = some (.string a1_1) := (blk_cell BK448.out 1).trans rfl
                          have hcz52_2 : wr.cell? ⟨gb448, 2, none⟩ = some (.int .i64 a1_2) := (blk_cell BK448.out 2).trans rfl
                          have hcz52_3 : wr.cell? ⟨gb448, 3, none⟩ = some (.int .i64 a1_3) := (blk_cell BK448.out 3).trans rfl
                          have hcz52_4 : wr.cell? ⟨gb448, 4, none⟩ = some (.slice A1_4 l1_4.length c1_4) := (blk_cell BK448.out 4).trans rfl
                          have hcz52_5 : wr.cell? ⟨gb448, 5, none⟩ = some (.int .i64 a1_5) := (blk_cell BK448.out 5).trans rfl
                          have hcz52_6 : wr.cell? ⟨gb448, 6, none⟩ = some (.int .i64 a1_6) := (blk_cell BK448.out 6).trans rfl
                          have hcz52_7 : wr.cell? ⟨gb448, 7, none⟩ = some (.int .i64 a1_7) := (blk_cell BK448.out 7).trans rfl
                          have hcz52_8 : wr.cell? ⟨gb448, 8, none⟩ = some (.int .i64 a1_8) := (blk_cell BK448.out 8).trans rfl
                          have hcz52_9 : wr.cell? ⟨gb448, 9, none⟩ = some (.slice A1_9 l1_9.length c1_9) := (blk_cell BK448.out 9).trans rfl
                          have hfz52_0 := blk_frozen BK448.out 0
                          have hfz52_1 := blk_frozen BK448.out 1
                          have hfz52_2 := blk_frozen BK448.out 2
                          have hfz52_3 := blk_frozen BK448.out 3
                          have hfz52_4 := blk_frozen BK448.out 4
                          have hfz52_5 := blk_frozen BK448.out 5
                          have hfz52_6 := blk_frozen BK448.out 6
                          have hfz52_7 := blk_frozen BK448.out 7
                          have hfz52_8 := blk_frozen BK448.out 8
                          have hfz52_9 := blk_frozen BK448.out 9
                          have p452 : 0 ≤ (x6_3 : Int) := of_decide_eq_true (by first | (with_reducible assumption) | assumption)
                          have q452 : x6_3 < (l1_9.length : Int) := of_decide_eq_true (by first | (with_reducible assumption) | assumption)
                          obtain ⟨ad452, e452, hx452_0, hx452_1⟩ := at_T94 HR1_9.out x6_3 p452 q452
                          cases e452
                          replace hx452_0 := (HB.out.cell (World.block_lt_of_cell? w _ hx452_0)).trans hx452_0
                          replace hx452_1 := (HB.out.cell (World.block_lt_of_cell? w _ hx452_1)).trans hx452_1
                          replace p452 := eq_true p452
                          replace q452 := eq_true q452
                          go_wp2
                          repeat (go_quiet (fail); try go_wp2)
                          go_ret
                          exact ⟨by first | rfl | (simp [errW_none, errW_some] <;> rfl) | (simp [*, errW_none, errW_some] <;> rfl), by repeat (first | (with_reducible first | exact HB.out | apply below_alloc | apply pw_below_drewN | apply below_drew1 | refine below_set ?_ GE447.out | refine below_set ?_ GE448.out) | exact HB.out)⟩
                        · rw [if_neg c49] at H
                          have c49b0 : (!((((rd_T94 l0_9 x6_3).f0).toList) == (((rd_T94 l1_9 x6_3).f0).toList)) || (!((((rd_T94 l0_9 x6_3).f1).toList) == (((rd_T94 l1_9 x6_3).f1).toList)))) = false := by simpa using c49
                          clear c49
                          have H' := Aside0.mk H
                          clear H
                          have hnb53 := NB447_448.out
                          have hnc53 := NB448_447.out
                          have hcz54_0 : wr.cell? ⟨gb447, 0, none⟩ = some (.string a0_0) := (blk_cell BK447.out 0).trans rfl
                          have hcz54_1 : wr.cell? ⟨gb447, 1, none⟩ = some (.string a0_1) := (blk_cell BK447.out 1).trans rfl
                          have hcz54_2 : wr.cell? ⟨gb447, 2, none⟩ = some (.int .i64 a0_2) := (blk_cell BK447.out 2).trans rfl
                          have hcz54_3 : wr.cell? ⟨gb447, 3, none⟩ = some (.int .i64 a0_3) := (blk_cell BK447.out 3).trans rfl
                          have hcz54_4 : wr.cell? ⟨gb447, 4, none⟩ = some (.slice A0_4 l0_4.length c0_4) := (blk_cell BK447.out 4).trans rfl
                          have hcz54_5 : wr.cell? ⟨gb447, 5, none⟩ = some (.int .i64 a0_5) := (blk_cell BK447.out 5).trans rfl
                          have hcz54_6 : wr.cell? ⟨gb447, 6, none⟩ = some (.int .i64 a0_6) := (blk_cell BK447.out 6).trans rfl
                          have hcz54_7 : wr.cell? ⟨gb447, 7, none⟩ = some (.int .i64 a0_7) := (blk_cell BK447.out 7).trans rfl
                          have hcz54_8 : wr.cell? ⟨gb447, 8, none⟩ = some (.int .i64 a0_8) := (blk_cell BK447.out 8).trans rfl
                          have hcz54_9 : wr.cell? ⟨gb447, 9, none⟩ = some (.slice A0_9 l0_9.length c0_9) := (blk_cell BK447.out 9).trans rfl
                          have hfz54_0 := blk_frozen BK447.out 0
                          have hfz54_1 := blk_frozen BK447.out 1
                          have hfz54_2 := blk_frozen BK447.out 2
                          have hfz54_3 := blk_frozen BK447.out 3
                          have hfz54_4 := blk_frozen BK447.out 4
                          have hfz54_5 := blk_frozen BK447.out 5
                          have hfz54_6 := blk_frozen BK447.out 6
                          have hfz54_7 := blk_frozen BK447.out 7
                          have hfz54_8 := blk_frozen BK447.out 8
                          have hfz54_9 := blk_frozen BK447.out 9
                          have p451 : 0 ≤ (x6_3 : Int) := of_decide_eq_true (by first | (with_reducible assumption) | assumption)
                          have q451 : x6_3 < (l0_9.length : Int) := of_decide_eq_true (by first | (with_reducible assumption) | assumption)
                          obtain ⟨ad451, e451, hx451_0, hx451_1⟩ := at_T94 HR0_9.out x6_3 p451 q451
                          cases e451
                          replace hx451_0 := (HB.out.cell (World.block_lt_of_cell? w _ hx451_0)).trans hx451_0
                          replace hx451_1 := (HB.out.cell (World.block_lt_of_cell? w _ hx451_1)).trans hx451_1
                          replace p451 := eq_true p451
                          replace q451 := eq_true q451
                          have hcz55_0 : wr.cell? ⟨gb448, 0, none⟩ = some (.string a1_0) := (blk_cell BK448.out 0).trans rfl
                          have hcz55_1 : wr.cell? ⟨gb448, 1, none⟩ = some (.string a1_1) := (blk_cell BK448.out 1).trans rfl
                          have hcz55_2 : wr.cell? ⟨gb448, 2, none⟩ = some (.int .i64 a1_2) := (blk_cell BK448.out 2).trans rfl
                          have hcz55_3 : wr.cell? ⟨gb448, 3, none⟩ = some (.int .i64 a1_3) := (blk_cell BK448.out 3).trans rfl
                          have hcz55_4 : wr.cell? ⟨gb448, 4, none⟩ = some (.slice A1_4 l1_4.length c1_4) := (blk_cell BK448.out 4).trans rfl
                          have hcz55_5 : wr.cell? ⟨gb448, 5, none⟩ = some (.int .i64 a1_5) := (blk_cell BK448.out 5).trans rfl
                          have hcz55_6 : wr.cell? ⟨gb448, 6, none⟩ = some (.int .i64 a1_6) := (blk_cell BK448.out 6).trans rfl
                          have hcz55_7 : wr.cell? ⟨gb448, 7, none⟩ = some (.int .i64 a1_7) := (blk_cell BK448.out 7).trans rfl
                          have hcz55_8 : wr.cell? ⟨gb448, 8, none⟩ = some (.int .i64 a1_8) := (blk_cell BK448.out 8).trans rfl
                          have hcz55_9 : wr.cell? ⟨gb448, 9, none⟩ = some (.slice A1_9 l1_9.length c1_9) := (blk_cell BK448.out 9).trans rfl
                          have hfz55_0 := blk_frozen BK448.out 0
                          have hfz55_1 := blk_frozen BK448.out 1
                          have hfz55_2 := blk_frozen BK448.out 2
                          have hfz55_3 := blk_frozen BK448.out 3
                          have hfz55_4 := blk_frozen BK448.out 4
                          have hfz55_5 := blk_frozen BK448.out 5
                          have hfz55_6 := blk_frozen BK448.out 6
                          have hfz55_7 := blk_frozen BK448.out 7
                          have hfz55_8 := blk_frozen BK448.out 8
                          have hfz55_9 := blk_frozen BK448.out 9
                          have p452 : 0 ≤ (x6_3 : Int) := of_decide_eq_true (by first | (with_reducible assumption) | assumption)
                          have q452 : x6_3 < (l1_9.length : Int) := of_decide_eq_true (by first | (with_reducible assumption) | assumption)
                          obtain ⟨ad452, e452, hx452_0, hx452_1⟩ := at_T94 HR1_9.out x6_3 p452 q452
                          cases e452
                          replace hx452_0 := (HB.out.cell (World.block_lt_of_cell? w _ hx452_0)).trans hx452_0
                          replace hx452_1 := (HB.out.cell (World.block_lt_of_cell? w _ hx452_1)).trans hx452_1
                          replace p452 := eq_true p452
                          replace q452 := eq_true q452
                          go_wp2
                          repeat (go_quiet (fail); try go_wp2)
                          go_roundg k3
                          case measure => have := HJ2.out; have := HK2.out; have := HK3.out; omega
                          case rel => exact ⟨(wrap64 (x6_3 + 1)), (by first | rfl | (simp; done) | (simp [*]; done)), H', ⟨by have := HJ2.out; have := HK2.out; have := HK3.out; omega⟩, ⟨by (with_reducible repeat (first | refine blk_drewN ?_ _ | refine blk_drew ?_ | refine blk_alloc ?_ _)); exact BK447.out⟩, ⟨by (with_reducible repeat (first | refine blk_drewN ?_ _ | refine blk_drew ?_ | refine blk_alloc ?_ _)); exact BK448.out⟩, ⟨by repeat (first | (with_reducible first | exact HB.out | apply below_alloc | apply pw_below_drewN | apply below_drew1 | refine below_set ?_ GE447.out | refine below_set ?_ GE448.out) | exact HB.out)⟩⟩
                      · rw [if_neg c48] at H
                        exact absurd H (by simp)
                    · rw [if_neg c47] at H
                      exact absurd H (by simp)
                  · rw [if_neg c46] at H
                    have c46b0 : decide (x6_3 < (l0_9.length : Int)) = false := decide_eq_false c46
                    clear c46
                    obtain rfl := Option.some.inj H
                    have hnb56 := NB447_448.out
                    have hnc56 := NB448_447.out
                    have hcz57_0 : wr.cell? ⟨gb447, 0, none⟩ = some (.string a0_0) := (blk_cell BK447.out 0).trans rfl
                    have hcz57_1 : wr.cell? ⟨gb447, 1, none⟩ = some (.string a0_1) := (blk_cell BK447.out 1).trans rfl
                    have hcz57_2 : wr.cell? ⟨gb447, 2, none⟩ = some (.int .i64 a0_2) := (blk_cell BK447.out 2).trans rfl
                    have hcz57_3 : wr.cell? ⟨gb447, 3, none⟩ = some (.int .i64 a0_3) := (blk_cell BK447.out 3).trans rfl
                    have hcz57_4 : wr.cell? ⟨gb447, 4, none⟩ = some (.slice A0_4 l0_4.length c0_4) := (blk_cell BK447.out 4).trans rfl
                    have hcz57_5 : wr.cell? ⟨gb447, 5, none⟩ = some (.int .i64 a0_5) := (blk_cell BK447.out 5).trans rfl
                    have hcz57_6 : wr.cell? ⟨gb447, 6, none⟩ = some (.int .i64 a0_6) := (blk_cell BK447.out 6).trans rfl
                    have hcz57_7 : wr.cell? ⟨gb447, 7, none⟩ = some (.int .i64 a0_7) := (blk_cell BK447.out 7).trans rfl
                    have hcz57_8 : wr.cell? ⟨gb447, 8, none⟩ = some (.int .i64 a0_8) := (blk_cell BK447.out 8).trans rfl
                    have hcz57_9 : wr.cell? ⟨gb447, 9, none⟩ = some (.slice A0_9 l0_9.length c0_9) := (blk_cell BK447.out 9).trans rfl
                    have hfz57_0 := blk_frozen BK447.out 0
                    have hfz57_1 := blk_frozen BK447.out 1
                    have hfz57_2 := blk_frozen BK447.out 2
                    have hfz57_3 := blk_frozen BK447.out 3
                    have hfz57_4 := blk_frozen BK447.out 4
                    have hfz57_5 := blk_frozen BK447.out 5
                    have hfz57_6 := blk_frozen BK447.out 6
                    have hfz57_7 := blk_frozen BK447.out 7
                    have hfz57_8 := blk_frozen BK447.out 8
                    have hfz57_9 := blk_frozen BK447.out 9
                    go_wp2
                    repeat (go_quiet (fail); try go_wp2)
                    go_ret
                    exact ⟨by first | rfl | (simp [errW_none, errW_some] <;> rfl) | (simp [*, errW_none, errW_some] <;> rfl), by repeat (first | (with_reducible first | exact HB.out | apply below_alloc | apply pw_below_drewN | apply below_drew1 | refine below_set ?_ GE447.out | refine below_set ?_ GE448.out) | exact HB.out)⟩

end Go.Proofs.Ytjkanclhlnojhaa.P
