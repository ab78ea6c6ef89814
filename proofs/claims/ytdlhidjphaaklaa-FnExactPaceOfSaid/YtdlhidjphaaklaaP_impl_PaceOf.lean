import Derived.Test.YtdlhidjphaaklaaP0
import Derived.Test.YtdlhidjphaaklaaP_impl_Get
import Derived.Test.YtdlhidjphaaklaaP_impl_PaceNew
import Derived.Test.YtdlhidjphaaklaaP_impl_allShapes
import Derived.Test.YtdlhidjphaaklaaP_impl_keysOf
import Derived.Test.YtdlhidjphaaklaaP_impl_strange
namespace Go.Proofs.Ytdlhidjphaaklaa.P
open Go.RowKit Go.Proofs.YtdlhidjphaaklaaW.PrintWords Go.Proofs.YtdlhidjphaaklaaW.PrintLast Go.Proofs.YtdlhidjphaaklaaW.PrintMore
attribute [local go_sem] max2_int min2_int max_two min_two max_three min_three max_four min_four
set_option linter.unusedVariables false
set_option linter.unusedSimpArgs false
noncomputable section
mutual
def impl_PaceOf.j0:Nat→Bool→Int→Int→ByteArray→List ByteArray→List (S33)→Option (Int × Int × Int × Int × ByteArray)
 |0,_,_,_,_,_,_=>none
 |k+1,x20,x290000,x290001,x290002,x290003,x290004=>if x20=true then (some (0,0,0,0,(⟨#[46]⟩:ByteArray))) else ((impl_strange.f x290000 x290001 x290002 x290003 x290004 (([(⟨#[100,111,119,110]⟩:ByteArray),(⟨#[100,111,119,110,115,112,97,110]⟩:ByteArray),(⟨#[117,112]⟩:ByteArray),(⟨#[117,112,115,112,97,110]⟩:ByteArray)]:List ByteArray)) ([]:List ByteArray)).bind fun bt295=>(if bt295.2=true then (some (0,0,0,0,bt295.1)) else ((impl_PaceNew.f).bind fun bt297=>((some (([(⟨#[100,111,119,110]⟩:ByteArray),(⟨#[100,111,119,110,115,112,97,110]⟩:ByteArray),(⟨#[117,112]⟩:ByteArray),(⟨#[117,112,115,112,97,110]⟩:ByteArray)]:List ByteArray):List ByteArray)).bind fun y302=>(impl_PaceOf.l0 k y302 (y302.length:Int) 0 x290000 x290001 x290002 x290003 x290004 bt297.1 bt297.2.1 bt297.2.2.1 bt297.2.2.2)))))
def impl_PaceOf.l0:Nat→List ByteArray→Int→Int→Int→Int→ByteArray→List ByteArray→List (S33)→Int→Int→Int→Int→Option (Int × Int × Int × Int × ByteArray)
 |0,_,_,_,_,_,_,_,_,_,_,_,_=>none
 |k+1,x32,x33,x34,x290000,x290001,x290002,x290003,x290004,x302000,x302001,x302002,x302003=>if x34<x33 then (if 0≤x34 then (if x34<(x32.length:Int) then ((impl_keysOf.f x290000 x290001 x290002 x290003 x290004).bind fun t306=>((slices_Contains_string_string.f k t306 (rdOf ByteArray.empty x32 x34)).bind fun t309=>(if t309=true then ((impl_Get.f x290000 x290001 x290002 x290003 x290004 (rdOf ByteArray.empty x32 x34)).bind fun bt310=>(if bt310.1=2 then ((impl_isMany.f bt310.2.1).bind fun t321=>(impl_PaceOf.j2 k (rdOf ByteArray.empty x32 x34) bt310.2.1 t321 x32 x33 x34 x290000 x290001 x290002 x290003 x290004 x302000 x302001 x302002 x302003 bt310.1 bt310.2.1 bt310.2.2.1 bt310.2.2.2.1 bt310.2.2.2.2.1)) else (impl_PaceOf.j2 k (rdOf ByteArray.empty x32 x34) bt310.2.1 false x32 x33 x34 x290000 x290001 x290002 x290003 x290004 x302000 x302001 x302002 x302003 bt310.1 bt310.2.1 bt310.2.2.1 bt310.2.2.2.1 bt310.2.2.2.2.1))) else (impl_PaceOf.l0 k x32 x33 (wrap64 (x34+1)) x290000 x290001 x290002 x290003 x290004 x302000 x302001 x302002 x302003)))) else (none)) else (none)) else (some (x302000,x302001,x302002,x302003,(⟨#[]⟩:ByteArray)))
def impl_PaceOf.j2:Nat→ByteArray→Int→Bool→List ByteArray→Int→Int→Int→Int→ByteArray→List ByteArray→List (S33)→Int→Int→Int→Int→Int→Int→ByteArray→List ByteArray→List (S33)→Option (Int × Int × Int × Int × ByteArray)
 |0,_,_,_,_,_,_,_,_,_,_,_,_,_,_,_,_,_,_,_,_=>none
 |k+1,x8,x11,x12,x32,x33,x34,x290000,x290001,x290002,x290003,x290004,x302000,x302001,x302002,x302003,x321000,x321001,x321002,x321003,x321004=>if x8.toList=([100,111,119,110,115,112,97,110]:List UInt8) then (impl_PaceOf.j3 k x8 x11 x12 x32 x33 x34 true x290000 x290001 x290002 x290003 x290004 x302000 x302001 x302002 x302003 x321000 x321001 x321002 x321003 x321004) else (impl_PaceOf.j3 k x8 x11 x12 x32 x33 x34 (x8.toList == ([117,112,115,112,97,110]:List UInt8)) x290000 x290001 x290002 x290003 x290004 x302000 x302001 x302002 x302003 x321000 x321001 x321002 x321003 x321004)
def impl_PaceOf.j3:Nat→ByteArray→Int→Bool→List ByteArray→Int→Int→Bool→Int→Int→ByteArray→List ByteArray→List (S33)→Int→Int→Int→Int→Int→Int→ByteArray→List ByteArray→List (S33)→Option (Int × Int × Int × Int × ByteArray)
 |0,_,_,_,_,_,_,_,_,_,_,_,_,_,_,_,_,_,_,_,_,_=>none
 |k+1,x8,x11,x12,x32,x33,x34,x64,x290000,x290001,x290002,x290003,x290004,x302000,x302001,x302002,x302003,x321000,x321001,x321002,x321003,x321004=>if x64=true then ((impl_SpanOf.f k x321002).bind fun bt322=>(if bt322.2=true then (if x321000=3 then (impl_PaceOf.j4 k x8 bt322.1 (decide (bt322.1≤3600)) x32 x33 x34 x290000 x290001 x290002 x290003 x290004 x302000 x302001 x302002 x302003) else (impl_PaceOf.j4 k x8 bt322.1 false x32 x33 x34 x290000 x290001 x290002 x290003 x290004 x302000 x302001 x302002 x302003)) else (impl_PaceOf.j4 k x8 bt322.1 false x32 x33 x34 x290000 x290001 x290002 x290003 x290004 x302000 x302001 x302002 x302003))) else (impl_PaceOf.j4 k x8 x11 x12 x32 x33 x34 x290000 x290001 x290002 x290003 x290004 x302000 x302001 x302002 x302003)
def impl_PaceOf.j4:Nat→ByteArray→Int→Bool→List ByteArray→Int→Int→Int→Int→ByteArray→List ByteArray→List (S33)→Int→Int→Int→Int→Option (Int × Int × Int × Int × ByteArray)
 |0,_,_,_,_,_,_,_,_,_,_,_,_,_,_,_=>none
 |k+1,x8,x11,x12,x32,x33,x34,x290000,x290001,x290002,x290003,x290004,x302000,x302001,x302002,x302003=>if x12=true then (if x8.toList=([100,111,119,110]:List UInt8) then (impl_PaceOf.l0 k x32 x33 (wrap64 (x34+1)) x290000 x290001 x290002 x290003 x290004 x302000 x11 x302002 x302003) else (if x8.toList=([100,111,119,110,115,112,97,110]:List UInt8) then (impl_PaceOf.l0 k x32 x33 (wrap64 (x34+1)) x290000 x290001 x290002 x290003 x290004 x302000 x302001 x302002 x11) else (if x8.toList=([117,112]:List UInt8) then (impl_PaceOf.l0 k x32 x33 (wrap64 (x34+1)) x290000 x290001 x290002 x290003 x290004 x11 x302001 x302002 x302003) else (impl_PaceOf.l0 k x32 x33 (wrap64 (x34+1)) x290000 x290001 x290002 x290003 x290004 x302000 x302001 x11 x302003)))) else (some (0,0,0,0,x8))
end
def impl_PaceOf.f (k:Nat) (a0_0:Int) (a0_1:Int) (a0_2:ByteArray) (l0_3:List ByteArray) (l0_4:List (S33)):Option (Int × Int × Int × Int × ByteArray):=if a0_0=5 then ((impl_TreeOk.f k a0_0 a0_1 a0_2 l0_3 l0_4).bind fun t291=>(impl_PaceOf.j0 k (!t291) a0_0 a0_1 a0_2 l0_3 l0_4)) else (impl_PaceOf.j0 k true a0_0 a0_1 a0_2 l0_3 l0_4)
theorem impl_PaceOf.mono_l:∀ k,(∀ y0 y1 y2 y3 y4 y5,LeO (impl_PaceOf.j0 k y0 y1 y2 y3 y4 y5) (impl_PaceOf.j0 (k+1) y0 y1 y2 y3 y4 y5))∧(∀ y0 y1 y2 y3 y4 y5 y6 y7 y8 y9 y10 y11,LeO (impl_PaceOf.l0 k y0 y1 y2 y3 y4 y5 y6 y7 y8 y9 y10 y11) (impl_PaceOf.l0 (k+1) y0 y1 y2 y3 y4 y5 y6 y7 y8 y9 y10 y11))∧(∀ y0 y1 y2 y3 y4 y5 y6 y7 y8 y9 y10 y11 y12 y13 y14 y15 y16 y17 y18 y19,LeO (impl_PaceOf.j2 k y0 y1 y2 y3 y4 y5 y6 y7 y8 y9 y10 y11 y12 y13 y14 y15 y16 y17 y18 y19) (impl_PaceOf.j2 (k+1) y0 y1 y2 y3 y4 y5 y6 y7 y8 y9 y10 y11 y12 y13 y14 y15 y16 y17 y18 y19))∧(∀ y0 y1 y2 y3 y4 y5 y6 y7 y8 y9 y10 y11 y12 y13 y14 y15 y16 y17 y18 y19 y20,LeO (impl_PaceOf.j3 k y0 y1 y2 y3 y4 y5 y6 y7 y8 y9 y10 y11 y12 y13 y14 y15 y16 y17 y18 y19 y20) (impl_PaceOf.j3 (k+1) y0 y1 y2 y3 y4 y5 y6 y7 y8 y9 y10 y11 y12 y13 y14 y15 y16 y17 y18 y19 y20))∧(∀ y0 y1 y2 y3 y4 y5 y6 y7 y8 y9 y10 y11 y12 y13 y14,LeO (impl_PaceOf.j4 k y0 y1 y2 y3 y4 y5 y6 y7 y8 y9 y10 y11 y12 y13 y14) (impl_PaceOf.j4 (k+1) y0 y1 y2 y3 y4 y5 y6 y7 y8 y9 y10 y11 y12 y13 y14))
 |0=>⟨fun _ _ _ _ _ _ r h=>by simp [impl_PaceOf.j0] at h,fun _ _ _ _ _ _ _ _ _ _ _ _ r h=>by simp [impl_PaceOf.l0] at h,fun _ _ _ _ _ _ _ _ _ _ _ _ _ _ _ _ _ _ _ _ r h=>by simp [impl_PaceOf.j2] at h,fun _ _ _ _ _ _ _ _ _ _ _ _ _ _ _ _ _ _ _ _ _ r h=>by simp [impl_PaceOf.j3] at h,fun _ _ _ _ _ _ _ _ _ _ _ _ _ _ _ r h=>by simp [impl_PaceOf.j4] at h⟩
 |k+1=>by
  obtain ⟨ih0,ih1,ih2,ih3,ih4⟩:=impl_PaceOf.mono_l k
  refine ⟨?_,?_,?_,?_,?_⟩
  ·intro y0 y1 y2 y3 y4 y5
   unfold impl_PaceOf.j0
   repeat' first
   |(with_reducible exact ih0 _ _ _ _ _ _)
   |(with_reducible exact ih1 _ _ _ _ _ _ _ _ _ _ _ _)
   |(with_reducible exact ih2 _ _ _ _ _ _ _ _ _ _ _ _ _ _ _ _ _ _ _ _)
   |(with_reducible exact ih3 _ _ _ _ _ _ _ _ _ _ _ _ _ _ _ _ _ _ _ _ _)
   |(with_reducible exact ih4 _ _ _ _ _ _ _ _ _ _ _ _ _ _ _)
   |(with_reducible exact impl_SpanOf.mono _ _)
   |(with_reducible exact impl_TreeOk.mono _ _ _ _ _ _)
   |(with_reducible exact slices_Contains_string_string.mono _ _ _)
   |(with_reducible exact LeO.refl _)
   |(with_reducible exact LeO.none _)
   |(with_reducible refine LeO.ite ?_ ?_)
   |(with_reducible refine LeO.bind ?_ (fun _=>?_))
   |exact ih0 _ _ _ _ _ _
   |exact ih1 _ _ _ _ _ _ _ _ _ _ _ _
   |exact ih2 _ _ _ _ _ _ _ _ _ _ _ _ _ _ _ _ _ _ _ _
   |exact ih3 _ _ _ _ _ _ _ _ _ _ _ _ _ _ _ _ _ _ _ _ _
   |exact ih4 _ _ _ _ _ _ _ _ _ _ _ _ _ _ _
   |exact impl_SpanOf.mono _ _
   |exact impl_TreeOk.mono _ _ _ _ _ _
   |exact slices_Contains_string_string.mono _ _ _
   |exact LeO.none _
   |refine LeO.ite ?_ ?_
   |refine LeO.bind ?_ (fun _=>?_)
  ·intro y0 y1 y2 y3 y4 y5 y6 y7 y8 y9 y10 y11
   unfold impl_PaceOf.l0
   repeat' first
   |(with_reducible exact ih0 _ _ _ _ _ _)
   |(with_reducible exact ih1 _ _ _ _ _ _ _ _ _ _ _ _)
   |(with_reducible exact ih2 _ _ _ _ _ _ _ _ _ _ _ _ _ _ _ _ _ _ _ _)
   |(with_reducible exact ih3 _ _ _ _ _ _ _ _ _ _ _ _ _ _ _ _ _ _ _ _ _)
   |(with_reducible exact ih4 _ _ _ _ _ _ _ _ _ _ _ _ _ _ _)
   |(with_reducible exact impl_SpanOf.mono _ _)
   |(with_reducible exact impl_TreeOk.mono _ _ _ _ _ _)
   |(with_reducible exact slices_Contains_string_string.mono _ _ _)
   |(with_reducible exact LeO.refl _)
   |(with_reducible exact LeO.none _)
   |(with_reducible refine LeO.ite ?_ ?_)
   |(with_reducible refine LeO.bind ?_ (fun _=>?_))
   |exact ih0 _ _ _ _ _ _
   |exact ih1 _ _ _ _ _ _ _ _ _ _ _ _
   |exact ih2 _ _ _ _ _ _ _ _ _ _ _ _ _ _ _ _ _ _ _ _
   |exact ih3 _ _ _ _ _ _ _ _ _ _ _ _ _ _ _ _ _ _ _ _ _
   |exact ih4 _ _ _ _ _ _ _ _ _ _ _ _ _ _ _
   |exact impl_SpanOf.mono _ _
   |exact impl_TreeOk.mono _ _ _ _ _ _
   |exact slices_Contains_string_string.mono _ _ _
   |exact LeO.none _
   |refine LeO.ite ?_ ?_
   |refine LeO.bind ?_ (fun _=>?_)
  ·intro y0 y1 y2 y3 y4 y5 y6 y7 y8 y9 y10 y11 y12 y13 y14 y15 y16 y17 y18 y19
   unfold impl_PaceOf.j2
   repeat' first
   |(with_reducible exact ih0 _ _ _ _ _ _)
   |(with_reducible exact ih1 _ _ _ _ _ _ _ _ _ _ _ _)
   |(with_reducible exact ih2 _ _ _ _ _ _ _ _ _ _ _ _ _ _ _ _ _ _ _ _)
   |(with_reducible exact ih3 _ _ _ _ _ _ _ _ _ _ _ _ _ _ _ _ _ _ _ _ _)
   |(with_reducible exact ih4 _ _ _ _ _ _ _ _ _ _ _ _ _ _ _)
   |(with_reducible exact impl_SpanOf.mono _ _)
   |(with_reducible exact impl_TreeOk.mono _ _ _ _ _ _)
   |(with_reducible exact slices_Contains_string_string.mono _ _ _)
   |(with_reducible exact LeO.refl _)
   |(with_reducible exact LeO.none _)
   |(with_reducible refine LeO.ite ?_ ?_)
   |(with_reducible refine LeO.bind ?_ (fun _=>?_))
   |exact ih0 _ _ _ _ _ _
   |exact ih1 _ _ _ _ _ _ _ _ _ _ _ _
   |exact ih2 _ _ _ _ _ _ _ _ _ _ _ _ _ _ _ _ _ _ _ _
   |exact ih3 _ _ _ _ _ _ _ _ _ _ _ _ _ _ _ _ _ _ _ _ _
   |exact ih4 _ _ _ _ _ _ _ _ _ _ _ _ _ _ _
   |exact impl_SpanOf.mono _ _
   |exact impl_TreeOk.mono _ _ _ _ _ _
   |exact slices_Contains_string_string.mono _ _ _
   |exact LeO.none _
   |refine LeO.ite ?_ ?_
   |refine LeO.bind ?_ (fun _=>?_)
  ·intro y0 y1 y2 y3 y4 y5 y6 y7 y8 y9 y10 y11 y12 y13 y14 y15 y16 y17 y18 y19 y20
   unfold impl_PaceOf.j3
   repeat' first
   |(with_reducible exact ih0 _ _ _ _ _ _)
   |(with_reducible exact ih1 _ _ _ _ _ _ _ _ _ _ _ _)
   |(with_reducible exact ih2 _ _ _ _ _ _ _ _ _ _ _ _ _ _ _ _ _ _ _ _)
   |(with_reducible exact ih3 _ _ _ _ _ _ _ _ _ _ _ _ _ _ _ _ _ _ _ _ _)
   |(with_reducible exact ih4 _ _ _ _ _ _ _ _ _ _ _ _ _ _ _)
   |(with_reducible exact impl_SpanOf.mono _ _)
   |(with_reducible exact impl_TreeOk.mono _ _ _ _ _ _)
   |(with_reducible exact slices_Contains_string_string.mono _ _ _)
   |(with_reducible exact LeO.refl _)
   |(with_reducible exact LeO.none _)
   |(with_reducible refine LeO.ite ?_ ?_)
   |(with_reducible refine LeO.bind ?_ (fun _=>?_))
   |exact ih0 _ _ _ _ _ _
   |exact ih1 _ _ _ _ _ _ _ _ _ _ _ _
   |exact ih2 _ _ _ _ _ _ _ _ _ _ _ _ _ _ _ _ _ _ _ _
   |exact ih3 _ _ _ _ _ _ _ _ _ _ _ _ _ _ _ _ _ _ _ _ _
   |exact ih4 _ _ _ _ _ _ _ _ _ _ _ _ _ _ _
   |exact impl_SpanOf.mono _ _
   |exact impl_TreeOk.mono _ _ _ _ _ _
   |exact slices_Contains_string_string.mono _ _ _
   |exact LeO.none _
   |refine LeO.ite ?_ ?_
   |refine LeO.bind ?_ (fun _=>?_)
  ·intro y0 y1 y2 y3 y4 y5 y6 y7 y8 y9 y10 y11 y12 y13 y14
   unfold impl_PaceOf.j4
   repeat' first
   |(with_reducible exact ih0 _ _ _ _ _ _)
   |(with_reducible exact ih1 _ _ _ _ _ _ _ _ _ _ _ _)
   |(with_reducible exact ih2 _ _ _ _ _ _ _ _ _ _ _ _ _ _ _ _ _ _ _ _)
   |(with_reducible exact ih3 _ _ _ _ _ _ _ _ _ _ _ _ _ _ _ _ _ _ _ _ _)
   |(with_reducible exact ih4 _ _ _ _ _ _ _ _ _ _ _ _ _ _ _)
   |(with_reducible exact impl_SpanOf.mono _ _)
   |(with_reducible exact impl_TreeOk.mono _ _ _ _ _ _)
   |(with_reducible exact slices_Contains_string_string.mono _ _ _)
   |(with_reducible exact LeO.refl _)
   |(with_reducible exact LeO.none _)
   |(with_reducible refine LeO.ite ?_ ?_)
   |(with_reducible refine LeO.bind ?_ (fun _=>?_))
   |exact ih0 _ _ _ _ _ _
   |exact ih1 _ _ _ _ _ _ _ _ _ _ _ _
   |exact ih2 _ _ _ _ _ _ _ _ _ _ _ _ _ _ _ _ _ _ _ _
   |exact ih3 _ _ _ _ _ _ _ _ _ _ _ _ _ _ _ _ _ _ _ _ _
   |exact ih4 _ _ _ _ _ _ _ _ _ _ _ _ _ _ _
   |exact impl_SpanOf.mono _ _
   |exact impl_TreeOk.mono _ _ _ _ _ _
   |exact slices_Contains_string_string.mono _ _ _
   |exact LeO.none _
   |refine LeO.ite ?_ ?_
   |refine LeO.bind ?_ (fun _=>?_)
theorem impl_PaceOf.mono:∀ a0 a1 a2 a3 a4 k,LeO (impl_PaceOf.f k a0 a1 a2 a3 a4) (impl_PaceOf.f (k+1) a0 a1 a2 a3 a4):=by
 intro a0 a1 a2 a3 a4 k
 obtain ⟨ih0,ih1,ih2,ih3,ih4⟩:=impl_PaceOf.mono_l k
 unfold impl_PaceOf.f
 repeat' first
   |(with_reducible exact ih0 _ _ _ _ _ _)
   |(with_reducible exact ih1 _ _ _ _ _ _ _ _ _ _ _ _)
   |(with_reducible exact ih2 _ _ _ _ _ _ _ _ _ _ _ _ _ _ _ _ _ _ _ _)
   |(with_reducible exact ih3 _ _ _ _ _ _ _ _ _ _ _ _ _ _ _ _ _ _ _ _ _)
   |(with_reducible exact ih4 _ _ _ _ _ _ _ _ _ _ _ _ _ _ _)
   |(with_reducible exact impl_SpanOf.mono _ _)
   |(with_reducible exact impl_TreeOk.mono _ _ _ _ _ _)
   |(with_reducible exact slices_Contains_string_string.mono _ _ _)
   |(with_reducible exact LeO.refl _)
   |(with_reducible exact LeO.none _)
   |(with_reducible refine LeO.ite ?_ ?_)
   |(with_reducible refine LeO.bind ?_ (fun _=>?_))
   |exact ih0 _ _ _ _ _ _
   |exact ih1 _ _ _ _ _ _ _ _ _ _ _ _
   |exact ih2 _ _ _ _ _ _ _ _ _ _ _ _ _ _ _ _ _ _ _ _
   |exact ih3 _ _ _ _ _ _ _ _ _ _ _ _ _ _ _ _ _ _ _ _ _
   |exact ih4 _ _ _ _ _ _ _ _ _ _ _ _ _ _ _
   |exact impl_SpanOf.mono _ _
   |exact impl_TreeOk.mono _ _ _ _ _ _
   |exact slices_Contains_string_string.mono _ _ _
   |exact LeO.none _
   |refine LeO.ite ?_ ?_
   |refine LeO.bind ?_ (fun _=>?_)
set_option maxHeartbeats 8000000 in
set_option maxRecDepth 100000 in
theorem impl_PaceOf.calls (k:Nat) (a0_0:Int) (a0_1:Int) (a0_2:ByteArray) (A0_3:Option Addr) (c0_3:Nat) (l0_3:List ByteArray) (A0_4:Option Addr) (c0_4:Nat) (l0_4:List (S33)) (r1:Int) (r2:Int) (r3:Int) (r4:Int) (r5:ByteArray) (w:World) (hr0_3:Kd.C Kd.string w A0_3 l0_3.length l0_3) (hc0_3:l0_3.length≤c0_3) (hr0_4:Kd.C k33 w A0_4 l0_4.length l0_4) (hc0_4:l0_4.length≤c0_4) (h:impl_PaceOf.f k a0_0 a0_1 a0_2 l0_3 l0_4=some (r1,r2,r3,r4,r5)) :
  Calls Try.prog 8 #[.agg #[.int .i64 a0_0,.int .i64 a0_1,.string a0_2,.slice A0_3 l0_3.length c0_3,.slice A0_4 l0_4.length c0_4]] w fun e w'=>e=.returned (.tuple #[.agg #[.int .i64 r1,.int .i64 r2,.int .i64 r3,.int .i64 r4],.string r5])∧Below w.heap.size w w':=by
 have hu33:=Try.underlying33
 have hu28:=Try.underlying28
 have HR0_3:=Aside0.mk hr0_3
 have HC0_3:=Aside0.mk hc0_3
 clear hr0_3 hc0_3
 have HR0_4:=Aside0.mk hr0_4
 have HC0_4:=Aside0.mk hc0_4
 clear hr0_4 hc0_4
 have HB:=Aside0.mk (Below.refl w.heap.size w)
 have H:(if a0_0=5 then ((impl_TreeOk.f k a0_0 a0_1 a0_2 l0_3 l0_4).bind fun t291=>(impl_PaceOf.j0 k (!t291) a0_0 a0_1 a0_2 l0_3 l0_4)) else (impl_PaceOf.j0 k true a0_0 a0_1 a0_2 l0_3 l0_4))=some (r1,r2,r3,r4,r5):=h
 clear h
 have HC2:=Aside0.mk H
 clear H
 go_enter Try.func8,Try.ntmps8
 go_upto_region 1 with (first|((with_reducible refine gate_dst (N:=1) rfl ?_); refine box_event ?hg (N:=1) ?hd (cs:=#[.int .i64 a0_0,.int .i64 a0_1,.string a0_2,.slice A0_3 l0_3.length c0_3,.slice A0_4 l0_4.length c0_4]) (t:=33) ?hr ?_; (case hd=>rfl); (case hg=>rfl); (case hr=>first|(go_simp; done)|(go_simp; rfl)); intro gb289 hg w3 hbox hb; have n0_:=Aside0.mk (below_step (by repeat (first|(with_reducible first|exact HB.out|apply below_alloc|apply pw_below_drewN|apply below_drew1)|exact HB.out)) hb); have n1_:=Aside0.mk (hbox); have n2_:=Aside0.mk ((by rw [hg]; exact (below_size (by repeat (first|(with_reducible first|exact HB.out|apply below_alloc|apply pw_below_drewN|apply below_drew1)|exact HB.out))):w.heap.size≤gb289)); have n3_:=Aside0.mk ((by rw [hg]; exact (below_size (by repeat (first|(with_reducible first|exact HB.out|apply below_alloc|apply pw_below_drewN|apply below_drew1)|exact HB.out))):w.heap.size≤gb289)); clear HB; have HB:=n0_; have BK289:=n1_; have GW289:=n2_; have GE289:=n3_; clear n0_ n1_ n2_ n3_; clear hb hbox hg)|((with_reducible refine gate_dst (N:=2) rfl ?_); refine box_event ?hg (N:=2) ?hd (cs:=#[.int .i64 0,.int .i64 0,.int .i64 0,.int .i64 0]) (t:=28) ?hr ?_; (case hd=>rfl); (case hg=>rfl); (case hr=>first|(go_simp; done)|(go_simp; rfl)); intro gb290 hg w4 hbox hb; have n0_:=Aside0.mk (blk_below (g:=gb289) (o:=.cells #[.int .i64 a0_0,.int .i64 a0_1,.string a0_2,.slice A0_3 l0_3.length c0_3,.slice A0_4 l0_4.length c0_4] 33 (0,0)) (by (with_reducible repeat (first|refine blk_drewN ?_ _|refine blk_drew ?_|refine blk_alloc ?_ _)); exact BK289.out) hb); have n1_:=Aside0.mk (below_step (by repeat (first|(with_reducible first|exact HB.out|apply below_alloc|apply pw_below_drewN|apply below_drew1|refine below_set ?_ GE289.out)|exact HB.out)) hb); have n2_:=Aside0.mk (hbox); have n3_:=Aside0.mk ((by rw [hg]; exact (below_size (by repeat (first|(with_reducible first|exact HB.out|apply below_alloc|apply pw_below_drewN|apply below_drew1|refine below_set ?_ GE289.out)|exact HB.out))):w.heap.size≤gb290)); have n4_:=Aside0.mk ((by rw [hg]; exact (below_size (by repeat (first|(with_reducible first|exact HB.out|apply below_alloc|apply pw_below_drewN|apply below_drew1|refine below_set ?_ GE289.out)|exact HB.out))):w.heap.size≤gb290)); have n5_:=Aside0.mk ((by rw [hg]; exact Nat.ne_of_lt (blk_lt (g:=gb289) (o:=.cells #[.int .i64 a0_0,.int .i64 a0_1,.string a0_2,.slice A0_3 l0_3.length c0_3,.slice A0_4 l0_4.length c0_4] 33 (0,0)) (by (with_reducible repeat (first|refine blk_drewN ?_ _|refine blk_drew ?_|refine blk_alloc ?_ _)); exact BK289.out)):gb289 ≠ gb290)); have n6_:=Aside0.mk ((by rw [hg]; exact Nat.ne_of_gt (blk_lt (g:=gb289) (o:=.cells #[.int .i64 a0_0,.int .i64 a0_1,.string a0_2,.slice A0_3 l0_3.length c0_3,.slice A0_4 l0_4.length c0_4] 33 (0,0)) (by (with_reducible repeat (first|refine blk_drewN ?_ _|refine blk_drew ?_|refine blk_alloc ?_ _)); exact BK289.out)):gb290 ≠ gb289)); clear BK289; clear HB; have BK289:=n0_; have HB:=n1_; have BK290:=n2_; have GW290:=n3_; have GE290:=n4_; have NB289_290:=n5_; have NB290_289:=n6_; clear n0_ n1_ n2_ n3_ n4_ n5_ n6_; clear hb hbox hg))
 (try simp only [Act.put,List.setIfInBounds_toArray,List.set_cons_zero,List.set_cons_succ])
 go_cut [20] (fun v20 wc=>∃ (kq:Nat) (x20_1:Bool),v20=.bool x20_1∧Aside0 (impl_PaceOf.j0 kq x20_1 a0_0 a0_1 a0_2 l0_3 l0_4=some (r1,r2,r3,r4,r5))∧Aside0 (kq≤k)∧Aside0 (wc.heap[gb289]?=some (.cells #[.int .i64 a0_0,.int .i64 a0_1,.string a0_2,(.slice A0_3 l0_3.length c0_3),(.slice A0_4 l0_4.length c0_4)] 33 (0,0)))∧Aside0 (wc.heap[gb290]?=some (.cells #[.int .i64 0,.int .i64 0,.int .i64 0,.int .i64 0] 28 (0,0)))∧Aside0 (Below w.heap.size w wc))
 case first =>
  have H:=HC2.out
  clear HC2
  by_cases c5:a0_0=5
  ·rw [if_pos c5] at H
   have c5b0:(a0_0 == 5)=true:=beq_iff_eq.mpr c5
   have c5b1:(a0_0 != 5)=false:=bne_eq_false_iff_eq.mpr c5
   clear c5
   (first|rw [c5b0]|rw [c5b1]|(simp only [i64_w,i32_w]; rw [c5b0])|skip)
   replace H:=Option.bind_eq_some_iff.mp H
   obtain ⟨t291,A60,H⟩:=H
   replace H:(impl_PaceOf.j0 k (!t291) a0_0 a0_1 a0_2 l0_3 l0_4)=some (r1,r2,r3,r4,r5):=H
   have A6:=Aside0.mk A60
   clear A60
   have H':=Aside0.mk H
   clear H
   have hnb7:=NB289_290.out
   have hnc7:=NB290_289.out
   have hcz8_0:w4.cell? ⟨gb289,0,none⟩=some (.int .i64 a0_0):=(blk_cell BK289.out 0).trans rfl
   have hcz8_1:w4.cell? ⟨gb289,1,none⟩=some (.int .i64 a0_1):=(blk_cell BK289.out 1).trans rfl
   have hcz8_2:w4.cell? ⟨gb289,2,none⟩=some (.string a0_2):=(blk_cell BK289.out 2).trans rfl
   have hcz8_3:w4.cell? ⟨gb289,3,none⟩=some (.slice A0_3 l0_3.length c0_3):=(blk_cell BK289.out 3).trans rfl
   have hcz8_4:w4.cell? ⟨gb289,4,none⟩=some (.slice A0_4 l0_4.length c0_4):=(blk_cell BK289.out 4).trans rfl
   have hfz8_0:=blk_frozen BK289.out 0
   have hfz8_1:=blk_frozen BK289.out 1
   have hfz8_2:=blk_frozen BK289.out 2
   have hfz8_3:=blk_frozen BK289.out 3
   have hfz8_4:=blk_frozen BK289.out 4
   go_wp2_with (first|(go_at_call 25; (with_reducible refine (impl_TreeOk.calls k a0_0 a0_1 a0_2 _ _ l0_3 _ _ l0_4 t291 _ ?side1 ?side2 ?side3 ?side4 A6.out).mono ?_); (case side1=>repeat (first|exact (Kd.C_below HR0_3.out HB.out)|(with_reducible refine Kd.C_alloc ?_ _)|(with_reducible refine Kd.C_drewN ?_ _)|(with_reducible refine Kd.C_drew ?_))); (case side2=>exact HC0_3.out); (case side3=>repeat (first|exact (Kd.C_below HR0_4.out HB.out)|(with_reducible refine Kd.C_alloc ?_ _)|(with_reducible refine Kd.C_drewN ?_ _)|(with_reducible refine Kd.C_drew ?_))); (case side4=>exact HC0_4.out); rintro e w9 ⟨rfl,hb⟩; have n0_:=Aside0.mk (blk_below (g:=gb289) (o:=.cells #[.int .i64 a0_0,.int .i64 a0_1,.string a0_2,.slice A0_3 l0_3.length c0_3,.slice A0_4 l0_4.length c0_4] 33 (0,0)) (by (with_reducible repeat (first|refine blk_drewN ?_ _|refine blk_drew ?_|refine blk_alloc ?_ _)); exact BK289.out) hb); have n1_:=Aside0.mk (blk_below (g:=gb290) (o:=.cells #[.int .i64 0,.int .i64 0,.int .i64 0,.int .i64 0] 28 (0,0)) (by (with_reducible repeat (first|refine blk_drewN ?_ _|refine blk_drew ?_|refine blk_alloc ?_ _)); exact BK290.out) hb); have n2_:=Aside0.mk (below_step (by repeat (first|(with_reducible first|exact HB.out|apply below_alloc|apply pw_below_drewN|apply below_drew1|refine below_set ?_ GE289.out|refine below_set ?_ GE290.out)|exact HB.out)) hb); clear BK289; clear BK290; clear HB; have BK289:=n0_; have BK290:=n1_; have HB:=n2_; clear n0_ n1_ n2_; (try clear hb); (try clear hb2); (try clear hk); (try clear hi)))
   go_meet
   case rel=>exact ⟨_,(!t291),(by first|rfl|(simp; done)|(simp [*]; done)),H',⟨by first|omega|exact Nat.le_refl _⟩,⟨by (with_reducible repeat (first|refine blk_drewN ?_ _|refine blk_drew ?_|refine blk_alloc ?_ _)); exact BK289.out⟩,⟨by (with_reducible repeat (first|refine blk_drewN ?_ _|refine blk_drew ?_|refine blk_alloc ?_ _)); exact BK290.out⟩,⟨by repeat (first|(with_reducible first|exact HB.out|apply below_alloc|apply pw_below_drewN|apply below_drew1|refine below_set ?_ GE289.out|refine below_set ?_ GE290.out)|exact HB.out)⟩⟩
  ·rw [if_neg c5] at H
   have c5b0:(a0_0 == 5)=false:=beq_eq_false_iff_ne.mpr c5
   have c5b1:(a0_0 != 5)=true:=bne_iff_ne.mpr c5
   (first|rw [c5b0]|rw [c5b1]|(simp only [i64_w,i32_w]; rw [c5b0])|skip)
   have H':=Aside0.mk H
   clear H
   have hnb10:=NB289_290.out
   have hnc10:=NB290_289.out
   have hcz11_0:w4.cell? ⟨gb289,0,none⟩=some (.int .i64 a0_0):=(blk_cell BK289.out 0).trans rfl
   have hcz11_1:w4.cell? ⟨gb289,1,none⟩=some (.int .i64 a0_1):=(blk_cell BK289.out 1).trans rfl
   have hcz11_2:w4.cell? ⟨gb289,2,none⟩=some (.string a0_2):=(blk_cell BK289.out 2).trans rfl
   have hcz11_3:w4.cell? ⟨gb289,3,none⟩=some (.slice A0_3 l0_3.length c0_3):=(blk_cell BK289.out 3).trans rfl
   have hcz11_4:w4.cell? ⟨gb289,4,none⟩=some (.slice A0_4 l0_4.length c0_4):=(blk_cell BK289.out 4).trans rfl
   have hfz11_0:=blk_frozen BK289.out 0
   have hfz11_1:=blk_frozen BK289.out 1
   have hfz11_2:=blk_frozen BK289.out 2
   have hfz11_3:=blk_frozen BK289.out 3
   have hfz11_4:=blk_frozen BK289.out 4
   go_wp2
   go_meet
   case rel=>exact ⟨_,(true),(by first|rfl|(simp; done)|(simp [*]; done)),H',⟨by first|omega|exact Nat.le_refl _⟩,⟨by (with_reducible repeat (first|refine blk_drewN ?_ _|refine blk_drew ?_|refine blk_alloc ?_ _)); exact BK289.out⟩,⟨by (with_reducible repeat (first|refine blk_drewN ?_ _|refine blk_drew ?_|refine blk_alloc ?_ _)); exact BK290.out⟩,⟨by repeat (first|(with_reducible first|exact HB.out|apply below_alloc|apply pw_below_drewN|apply below_drew1|refine below_set ?_ GE289.out|refine below_set ?_ GE290.out)|exact HB.out)⟩⟩
 case rest =>
  clear HC2
  try clear c1
  try clear p2
  try clear c5
  try clear c5b0
  try clear c5b1
  try clear c7
  try clear c8
  try clear c10
  try clear hcz11_0
  try clear hcz11_1
  try clear hcz11_2
  try clear hcz11_3
  try clear hcz11_4
  try clear hcz8_0
  try clear hcz8_1
  try clear hcz8_2
  try clear hcz8_3
  try clear hcz8_4
  try clear hfz11_0
  try clear hfz11_1
  try clear hfz11_2
  try clear hfz11_3
  try clear hfz11_4
  try clear hfz8_0
  try clear hfz8_1
  try clear hfz8_2
  try clear hfz8_3
  try clear hfz8_4
  obtain ⟨kq,x20_1,rfl,HA,HJ1,BK289,BK290,HB⟩:=hcut
  cases kq with
  |zero=>exact absurd HA.out (by simp [impl_PaceOf.j0])
  |succ kj1 =>
   have H:=HA.out
   clear HA
   simp only [impl_PaceOf.j0] at H
   by_cases c12:x20_1=true
   ·subst c12
    have H1:(some (0,0,0,0,(⟨#[46]⟩:ByteArray)))=some (r1,r2,r3,r4,r5):=by rw [if_pos rfl] at H; exact H
    clear H
    have H:=H1
    clear H1
    simp only [Option.some.injEq,Prod.mk.injEq] at H
    obtain ⟨rfl,rfl,rfl,rfl,rfl⟩:=H
    have hnb13:=NB290_289.out
    have hnc13:=NB289_290.out
    have hcz14_0:wc.cell? ⟨gb290,0,none⟩=some (.int .i64 0):=(blk_cell BK290.out 0).trans rfl
    have hcz14_1:wc.cell? ⟨gb290,1,none⟩=some (.int .i64 0):=(blk_cell BK290.out 1).trans rfl
    have hcz14_2:wc.cell? ⟨gb290,2,none⟩=some (.int .i64 0):=(blk_cell BK290.out 2).trans rfl
    have hcz14_3:wc.cell? ⟨gb290,3,none⟩=some (.int .i64 0):=(blk_cell BK290.out 3).trans rfl
    have hfz14_0:=blk_frozen BK290.out 0
    have hfz14_1:=blk_frozen BK290.out 1
    have hfz14_2:=blk_frozen BK290.out 2
    have hfz14_3:=blk_frozen BK290.out 3
    go_wp2
    refine bodyPost_ret (results_ct rfl _ _ gb290 28 #[.int .i64 0,.int .i64 0,.int .i64 0,.int .i64 0] (0,0) _ rfl (by (with_reducible repeat (first|refine blk_drewN ?_ _|refine blk_drew ?_|refine blk_alloc ?_ _)); refine blk_put (cs:=#[.int .i64 0,.int .i64 0,.int .i64 0,.int .i64 0]) ?_ 3 _ rfl; (with_reducible repeat (first|refine blk_drewN ?_ _|refine blk_drew ?_|refine blk_alloc ?_ _)); refine blk_put (cs:=#[.int .i64 0,.int .i64 0,.int .i64 0,.int .i64 0]) ?_ 2 _ rfl; (with_reducible repeat (first|refine blk_drewN ?_ _|refine blk_drew ?_|refine blk_alloc ?_ _)); refine blk_put (cs:=#[.int .i64 0,.int .i64 0,.int .i64 0,.int .i64 0]) ?_ 1 _ rfl; (with_reducible repeat (first|refine blk_drewN ?_ _|refine blk_drew ?_|refine blk_alloc ?_ _)); refine blk_put (cs:=#[.int .i64 0,.int .i64 0,.int .i64 0,.int .i64 0]) ?_ 0 _ rfl; (with_reducible repeat (first|refine blk_drewN ?_ _|refine blk_drew ?_|refine blk_alloc ?_ _)); exact BK290.out) Try.underlying28 rfl (by kernel_rfl)) rfl ?_
    exact ⟨by first|rfl|(simp [errW_none,errW_some]<;>rfl)|(simp [*,errW_none,errW_some]<;>rfl),by repeat (first|(with_reducible first|exact HB.out|apply below_alloc|apply pw_below_drewN|apply below_drew1|refine below_set ?_ GE289.out|refine below_set ?_ GE290.out)|exact HB.out)⟩
   ·replace c12:=Bool.eq_false_iff.mpr c12
    subst c12
    have H1:((impl_strange.f a0_0 a0_1 a0_2 l0_3 l0_4 (([(⟨#[100,111,119,110]⟩:ByteArray),(⟨#[100,111,119,110,115,112,97,110]⟩:ByteArray),(⟨#[117,112]⟩:ByteArray),(⟨#[117,112,115,112,97,110]⟩:ByteArray)]:List ByteArray)) ([]:List ByteArray)).bind fun bt295=>(if bt295.2=true then (some (0,0,0,0,bt295.1)) else ((impl_PaceNew.f).bind fun bt297=>((some (([(⟨#[100,111,119,110]⟩:ByteArray),(⟨#[100,111,119,110,115,112,97,110]⟩:ByteArray),(⟨#[117,112]⟩:ByteArray),(⟨#[117,112,115,112,97,110]⟩:ByteArray)]:List ByteArray):List ByteArray)).bind fun y302=>(impl_PaceOf.l0 kj1 y302 (y302.length:Int) 0 a0_0 a0_1 a0_2 l0_3 l0_4 bt297.1 bt297.2.1 bt297.2.2.1 bt297.2.2.2)))))=some (r1,r2,r3,r4,r5):=by rw [if_neg (show ¬ (false=true) by decide)] at H; exact H
    clear H
    have H:=H1
    clear H1
    obtain ⟨y292,hy292⟩:∃ y_:List ByteArray,y_=(([(⟨#[100,111,119,110]⟩:ByteArray),(⟨#[100,111,119,110,115,112,97,110]⟩:ByteArray),(⟨#[117,112]⟩:ByteArray),(⟨#[117,112,115,112,97,110]⟩:ByteArray)]:List ByteArray)):=⟨_,rfl⟩
    replace H:((impl_strange.f a0_0 a0_1 a0_2 l0_3 l0_4 y292 ([]:List ByteArray)).bind fun bt295=>(if bt295.2=true then (some (0,0,0,0,bt295.1)) else ((impl_PaceNew.f).bind fun bt297=>((some (([(⟨#[100,111,119,110]⟩:ByteArray),(⟨#[100,111,119,110,115,112,97,110]⟩:ByteArray),(⟨#[117,112]⟩:ByteArray),(⟨#[117,112,115,112,97,110]⟩:ByteArray)]:List ByteArray):List ByteArray)).bind fun y302=>(impl_PaceOf.l0 kj1 y302 (y302.length:Int) 0 a0_0 a0_1 a0_2 l0_3 l0_4 bt297.1 bt297.2.1 bt297.2.2.1 bt297.2.2.2)))))=some (r1,r2,r3,r4,r5):=by first|(rw [hy292]; with_reducible exact H)|(have H2_:=(Option.bind_some _ _).symm.trans H; rw [hy292]; with_reducible exact H2_)|(have H2_:=(Option.bind_some _ _).symm.trans H; with_reducible exact H2_)|with_reducible exact H|(rw [hy292]; exact H)|exact H
    have Ny292:=Aside0.mk hy292
    clear hy292
    replace H:=Option.bind_eq_some_iff.mp H
    obtain ⟨⟨t295,t296⟩,A150,H⟩:=H
    replace H:(if t296=true then (some (0,0,0,0,t295)) else ((impl_PaceNew.f).bind fun bt297=>((some (([(⟨#[100,111,119,110]⟩:ByteArray),(⟨#[100,111,119,110,115,112,97,110]⟩:ByteArray),(⟨#[117,112]⟩:ByteArray),(⟨#[117,112,115,112,97,110]⟩:ByteArray)]:List ByteArray):List ByteArray)).bind fun y302=>(impl_PaceOf.l0 kj1 y302 (y302.length:Int) 0 a0_0 a0_1 a0_2 l0_3 l0_4 bt297.1 bt297.2.1 bt297.2.2.1 bt297.2.2.2))))=some (r1,r2,r3,r4,r5):=H
    have A15:=Aside0.mk A150
    clear A150
    have HC16:=Aside0.mk H
    clear H
    have hnb17:=NB289_290.out
    have hnc17:=NB290_289.out
    have hcz18_0:wc.cell? ⟨gb289,0,none⟩=some (.int .i64 a0_0):=(blk_cell BK289.out 0).trans rfl
    have hcz18_1:wc.cell? ⟨gb289,1,none⟩=some (.int .i64 a0_1):=(blk_cell BK289.out 1).trans rfl
    have hcz18_2:wc.cell? ⟨gb289,2,none⟩=some (.string a0_2):=(blk_cell BK289.out 2).trans rfl
    have hcz18_3:wc.cell? ⟨gb289,3,none⟩=some (.slice A0_3 l0_3.length c0_3):=(blk_cell BK289.out 3).trans rfl
    have hcz18_4:wc.cell? ⟨gb289,4,none⟩=some (.slice A0_4 l0_4.length c0_4):=(blk_cell BK289.out 4).trans rfl
    have hfz18_0:=blk_frozen BK289.out 0
    have hfz18_1:=blk_frozen BK289.out 1
    have hfz18_2:=blk_frozen BK289.out 2
    have hfz18_3:=blk_frozen BK289.out 3
    have hfz18_4:=blk_frozen BK289.out 4
    go_upto_if 28 with (first|((with_reducible refine gate_dst (N:=24) rfl ?_); refine Kd.R_lit Kd.string _ 9 ?hg (N:=24) ?hd (xs:=([(⟨#[100,111,119,110]⟩:ByteArray),(⟨#[100,111,119,110,115,112,97,110]⟩:ByteArray),(⟨#[117,112]⟩:ByteArray),(⟨#[117,112,115,112,97,110]⟩:ByteArray)]:List ByteArray)) (inner:=[.string (⟨#[100,111,119,110]⟩:ByteArray),.string (⟨#[100,111,119,110,115,112,97,110]⟩:ByteArray),.string (⟨#[117,112]⟩:ByteArray),.string (⟨#[117,112,115,112,97,110]⟩:ByteArray)]) (ok:=fun _=>True) (okp:=fun _=>True) ?hr ?hp (fun _ hk=>hk) trivial (Below.refl _ _) (Nat.le_refl _) (by simp) ?_; (case hd=>rfl); (case hg=>rfl); (case hr=>first|(go_simp; done)|(go_simp; rfl)); (case hp=>exact (Reps.one (show Kd.M Kd.string _ _ _ (⟨#[100,111,119,110]⟩:ByteArray) [.string (⟨#[100,111,119,110]⟩:ByteArray)] from rfl) (Reps.one (show Kd.M Kd.string _ _ _ (⟨#[100,111,119,110,115,112,97,110]⟩:ByteArray) [.string (⟨#[100,111,119,110,115,112,97,110]⟩:ByteArray)] from rfl) (Reps.one (show Kd.M Kd.string _ _ _ (⟨#[117,112]⟩:ByteArray) [.string (⟨#[117,112]⟩:ByteArray)] from rfl) (Reps.one (show Kd.M Kd.string _ _ _ (⟨#[117,112,115,112,97,110]⟩:ByteArray) [.string (⟨#[117,112,115,112,97,110]⟩:ByteArray)] from rfl) (Reps.none _ _)))))); intro v293 w19 ho20 hb hg_ hnew_; clear hg_ hnew_; (first|rw [← Ny292.out] at ho20|(simp only [Int.reduceToNat] at ho20; rw [← Ny292.out] at ho20)); have n0_:=Aside0.mk (Kd.R_lower ho20 (below_size (by repeat (first|(with_reducible first|exact HB.out|apply below_alloc|apply pw_below_drewN|apply below_drew1|refine below_set ?_ GE289.out|refine below_set ?_ GE290.out)|exact HB.out)))); have n1_:=Aside0.mk (blk_below (g:=gb289) (o:=.cells #[.int .i64 a0_0,.int .i64 a0_1,.string a0_2,.slice A0_3 l0_3.length c0_3,.slice A0_4 l0_4.length c0_4] 33 (0,0)) (by (with_reducible repeat (first|refine blk_drewN ?_ _|refine blk_drew ?_|refine blk_alloc ?_ _)); exact BK289.out) hb); have n2_:=Aside0.mk (blk_below (g:=gb290) (o:=.cells #[.int .i64 0,.int .i64 0,.int .i64 0,.int .i64 0] 28 (0,0)) (by (with_reducible repeat (first|refine blk_drewN ?_ _|refine blk_drew ?_|refine blk_alloc ?_ _)); exact BK290.out) hb); have n3_:=Aside0.mk (below_step (by repeat (first|(with_reducible first|exact HB.out|apply below_alloc|apply pw_below_drewN|apply below_drew1|refine below_set ?_ GE289.out|refine below_set ?_ GE290.out)|exact HB.out)) hb); clear BK289; clear BK290; clear HB; have HO294:=n0_; have BK289:=n1_; have BK290:=n2_; have HB:=n3_; clear n0_ n1_ n2_ n3_; clear hb ho20; obtain ⟨Ao21,co21,eo21⟩:=Kd.R_slice HO294.out; subst eo21)|(go_at_call 26; (refine (impl_strange.calls a0_0 a0_1 a0_2 _ _ l0_3 _ _ l0_4 _ _ y292 _ _ ([]:List ByteArray) t295 t296 _ ?side1 ?side2 ?side3 ?side4 ?side5 ?side6 ?side7 ?side8 A15.out).mono ?_); (case side1=>repeat (first|exact (Kd.C_below HR0_3.out HB.out)|(with_reducible refine Kd.C_alloc ?_ _)|(with_reducible refine Kd.C_drewN ?_ _)|(with_reducible refine Kd.C_drew ?_))); (case side2=>exact HC0_3.out); (case side3=>repeat (first|exact (Kd.C_below HR0_4.out HB.out)|(with_reducible refine Kd.C_alloc ?_ _)|(with_reducible refine Kd.C_drewN ?_ _)|(with_reducible refine Kd.C_drew ?_))); (case side4=>exact HC0_4.out); (case side5=>repeat (first|exact (Kd.R_reads' HO294.out).2.2|(with_reducible refine Kd.C_alloc ?_ _)|(with_reducible refine Kd.C_drewN ?_ _)|(with_reducible refine Kd.C_drew ?_))); (case side6=>exact (Kd.R_reads' HO294.out).2.1); (case side7=>exact Kd.C_nil _ _); (case side8=>exact Nat.le_refl _); rintro e w22 ⟨rfl,hb⟩; have n0_:=Aside0.mk (Kd.R_below (by (with_reducible repeat (first|apply Kd.R_alloc|apply Kd.R_drewN|apply Kd.R_drew)); exact HO294.out) hb); have n1_:=Aside0.mk (blk_below (g:=gb289) (o:=.cells #[.int .i64 a0_0,.int .i64 a0_1,.string a0_2,.slice A0_3 l0_3.length c0_3,.slice A0_4 l0_4.length c0_4] 33 (0,0)) (by (with_reducible repeat (first|refine blk_drewN ?_ _|refine blk_drew ?_|refine blk_alloc ?_ _)); exact BK289.out) hb); have n2_:=Aside0.mk (blk_below (g:=gb290) (o:=.cells #[.int .i64 0,.int .i64 0,.int .i64 0,.int .i64 0] 28 (0,0)) (by (with_reducible repeat (first|refine blk_drewN ?_ _|refine blk_drew ?_|refine blk_alloc ?_ _)); exact BK290.out) hb); have n3_:=Aside0.mk (below_step (by repeat (first|(with_reducible first|exact HB.out|apply below_alloc|apply pw_below_drewN|apply below_drew1|refine below_set ?_ GE289.out|refine below_set ?_ GE290.out)|exact HB.out)) hb); clear HO294; clear BK289; clear BK290; clear HB; have HO294:=n0_; have BK289:=n1_; have BK290:=n2_; have HB:=n3_; clear n0_ n1_ n2_ n3_; (try clear hb); (try clear hb2); (try clear hk); (try clear hi)))
    (try simp only [Act.put,List.setIfInBounds_toArray,List.set_cons_zero,List.set_cons_succ])
    have H:=HC16.out
    clear HC16
    by_cases c23:t296=true
    ·subst c23
     have H1:(some (0,0,0,0,t295))=some (r1,r2,r3,r4,r5):=by rw [if_pos rfl] at H; exact H
     clear H
     have H:=H1
     clear H1
     simp only [Option.some.injEq,Prod.mk.injEq] at H
     obtain ⟨rfl,rfl,rfl,rfl,rfl⟩:=H
     have hnb24:=NB290_289.out
     have hnc24:=NB289_290.out
     have hcz25_0:w22.cell? ⟨gb290,0,none⟩=some (.int .i64 0):=(blk_cell BK290.out 0).trans rfl
     have hcz25_1:w22.cell? ⟨gb290,1,none⟩=some (.int .i64 0):=(blk_cell BK290.out 1).trans rfl
     have hcz25_2:w22.cell? ⟨gb290,2,none⟩=some (.int .i64 0):=(blk_cell BK290.out 2).trans rfl
     have hcz25_3:w22.cell? ⟨gb290,3,none⟩=some (.int .i64 0):=(blk_cell BK290.out 3).trans rfl
     have hfz25_0:=blk_frozen BK290.out 0
     have hfz25_1:=blk_frozen BK290.out 1
     have hfz25_2:=blk_frozen BK290.out 2
     have hfz25_3:=blk_frozen BK290.out 3
     go_wp2
     refine bodyPost_ret (results_ct rfl _ _ gb290 28 #[.int .i64 0,.int .i64 0,.int .i64 0,.int .i64 0] (0,0) _ rfl (by (with_reducible repeat (first|refine blk_drewN ?_ _|refine blk_drew ?_|refine blk_alloc ?_ _)); refine blk_put (cs:=#[.int .i64 0,.int .i64 0,.int .i64 0,.int .i64 0]) ?_ 3 _ rfl; (with_reducible repeat (first|refine blk_drewN ?_ _|refine blk_drew ?_|refine blk_alloc ?_ _)); refine blk_put (cs:=#[.int .i64 0,.int .i64 0,.int .i64 0,.int .i64 0]) ?_ 2 _ rfl; (with_reducible repeat (first|refine blk_drewN ?_ _|refine blk_drew ?_|refine blk_alloc ?_ _)); refine blk_put (cs:=#[.int .i64 0,.int .i64 0,.int .i64 0,.int .i64 0]) ?_ 1 _ rfl; (with_reducible repeat (first|refine blk_drewN ?_ _|refine blk_drew ?_|refine blk_alloc ?_ _)); refine blk_put (cs:=#[.int .i64 0,.int .i64 0,.int .i64 0,.int .i64 0]) ?_ 0 _ rfl; (with_reducible repeat (first|refine blk_drewN ?_ _|refine blk_drew ?_|refine blk_alloc ?_ _)); exact BK290.out) Try.underlying28 rfl (by kernel_rfl)) rfl ?_
     exact ⟨by first|rfl|(simp [errW_none,errW_some]<;>rfl)|(simp [*,errW_none,errW_some]<;>rfl),by repeat (first|(with_reducible first|exact HB.out|apply below_alloc|apply pw_below_drewN|apply below_drew1|refine below_set ?_ GE289.out|refine below_set ?_ GE290.out)|exact HB.out)⟩
    ·replace c23:=Bool.eq_false_iff.mpr c23
     subst c23
     have H1:((impl_PaceNew.f).bind fun bt297=>((some (([(⟨#[100,111,119,110]⟩:ByteArray),(⟨#[100,111,119,110,115,112,97,110]⟩:ByteArray),(⟨#[117,112]⟩:ByteArray),(⟨#[117,112,115,112,97,110]⟩:ByteArray)]:List ByteArray):List ByteArray)).bind fun y302=>(impl_PaceOf.l0 kj1 y302 (y302.length:Int) 0 a0_0 a0_1 a0_2 l0_3 l0_4 bt297.1 bt297.2.1 bt297.2.2.1 bt297.2.2.2)))=some (r1,r2,r3,r4,r5):=by rw [if_neg (show ¬ (false=true) by decide)] at H; exact H
     clear H
     have H:=H1
     clear H1
     replace H:=Option.bind_eq_some_iff.mp H
     obtain ⟨⟨t297,t298,t299,t300⟩,A260,H⟩:=H
     replace H:((some (([(⟨#[100,111,119,110]⟩:ByteArray),(⟨#[100,111,119,110,115,112,97,110]⟩:ByteArray),(⟨#[117,112]⟩:ByteArray),(⟨#[117,112,115,112,97,110]⟩:ByteArray)]:List ByteArray):List ByteArray)).bind fun y302=>(impl_PaceOf.l0 kj1 y302 (y302.length:Int) 0 a0_0 a0_1 a0_2 l0_3 l0_4 t297 t298 t299 t300))=some (r1,r2,r3,r4,r5):=H
     have A26:=Aside0.mk A260
     clear A260
     obtain ⟨y302,hy302⟩:∃ y_:List ByteArray,y_=(([(⟨#[100,111,119,110]⟩:ByteArray),(⟨#[100,111,119,110,115,112,97,110]⟩:ByteArray),(⟨#[117,112]⟩:ByteArray),(⟨#[117,112,115,112,97,110]⟩:ByteArray)]:List ByteArray)):=⟨_,rfl⟩
     replace H:(impl_PaceOf.l0 kj1 y302 (y302.length:Int) 0 a0_0 a0_1 a0_2 l0_3 l0_4 t297 t298 t299 t300)=some (r1,r2,r3,r4,r5):=by first|(rw [hy302]; with_reducible exact H)|(have H2_:=(Option.bind_some _ _).symm.trans H; rw [hy302]; with_reducible exact H2_)|(have H2_:=(Option.bind_some _ _).symm.trans H; with_reducible exact H2_)|with_reducible exact H|(rw [hy302]; exact H)|exact H
     have Ny302:=Aside0.mk hy302
     clear hy302
     have H':=Aside0.mk H
     clear H
     go_wp2_with (first|(go_at_call 27; (with_reducible refine (impl_PaceNew.calls t297 t298 t299 t300 _ A26.out).mono ?_); rintro e w27 ⟨rfl,hb⟩; have n0_:=Aside0.mk (Kd.R_below (by (with_reducible repeat (first|apply Kd.R_alloc|apply Kd.R_drewN|apply Kd.R_drew)); exact HO294.out) hb); have n1_:=Aside0.mk (blk_below (g:=gb289) (o:=.cells #[.int .i64 a0_0,.int .i64 a0_1,.string a0_2,.slice A0_3 l0_3.length c0_3,.slice A0_4 l0_4.length c0_4] 33 (0,0)) (by (with_reducible repeat (first|refine blk_drewN ?_ _|refine blk_drew ?_|refine blk_alloc ?_ _)); exact BK289.out) hb); have n2_:=Aside0.mk (blk_below (g:=gb290) (o:=.cells #[.int .i64 0,.int .i64 0,.int .i64 0,.int .i64 0] 28 (0,0)) (by (with_reducible repeat (first|refine blk_drewN ?_ _|refine blk_drew ?_|refine blk_alloc ?_ _)); exact BK290.out) hb); have n3_:=Aside0.mk (below_step (by repeat (first|(with_reducible first|exact HB.out|apply below_alloc|apply pw_below_drewN|apply below_drew1|refine below_set ?_ GE289.out|refine below_set ?_ GE290.out)|exact HB.out)) hb); clear HO294; clear BK289; clear BK290; clear HB; have HO294:=n0_; have BK289:=n1_; have BK290:=n2_; have HB:=n3_; clear n0_ n1_ n2_ n3_; (try clear hb); (try clear hb2); (try clear hk); (try clear hi))|((with_reducible refine gate_dst (N:=6) rfl ?_); refine box_event ?hg (N:=6) ?hd (cs:=#[.int .i64 0,.int .i64 0,.int .i64 0,.int .i64 0]) (t:=28) ?hr ?_; (case hd=>rfl); (case hg=>rfl); (case hr=>first|(go_simp; done)|(go_simp; rfl)); intro gb301 hg w28 hbox hb; have n0_:=Aside0.mk (Kd.R_below (by (with_reducible repeat (first|apply Kd.R_alloc|apply Kd.R_drewN|apply Kd.R_drew)); exact HO294.out) hb); have n1_:=Aside0.mk (blk_below (g:=gb289) (o:=.cells #[.int .i64 a0_0,.int .i64 a0_1,.string a0_2,.slice A0_3 l0_3.length c0_3,.slice A0_4 l0_4.length c0_4] 33 (0,0)) (by (with_reducible repeat (first|refine blk_drewN ?_ _|refine blk_drew ?_|refine blk_alloc ?_ _)); exact BK289.out) hb); have n2_:=Aside0.mk (blk_below (g:=gb290) (o:=.cells #[.int .i64 0,.int .i64 0,.int .i64 0,.int .i64 0] 28 (0,0)) (by (with_reducible repeat (first|refine blk_drewN ?_ _|refine blk_drew ?_|refine blk_alloc ?_ _)); exact BK290.out) hb); have n3_:=Aside0.mk (below_step (by repeat (first|(with_reducible first|exact HB.out|apply below_alloc|apply pw_below_drewN|apply below_drew1|refine below_set ?_ GE289.out|refine below_set ?_ GE290.out)|exact HB.out)) hb); have n4_:=Aside0.mk (hbox); have n5_:=Aside0.mk ((by rw [hg]; exact (below_size (by repeat (first|(with_reducible first|exact HB.out|apply below_alloc|apply pw_below_drewN|apply below_drew1|refine below_set ?_ GE289.out|refine below_set ?_ GE290.out)|exact HB.out))):w.heap.size≤gb301)); have n6_:=Aside0.mk ((by rw [hg]; exact (below_size (by repeat (first|(with_reducible first|exact HB.out|apply below_alloc|apply pw_below_drewN|apply below_drew1|refine below_set ?_ GE289.out|refine below_set ?_ GE290.out)|exact HB.out))):w.heap.size≤gb301)); have n7_:=Aside0.mk ((by rw [hg]; exact Nat.ne_of_lt (blk_lt (g:=gb289) (o:=.cells #[.int .i64 a0_0,.int .i64 a0_1,.string a0_2,.slice A0_3 l0_3.length c0_3,.slice A0_4 l0_4.length c0_4] 33 (0,0)) (by (with_reducible repeat (first|refine blk_drewN ?_ _|refine blk_drew ?_|refine blk_alloc ?_ _)); exact BK289.out)):gb289 ≠ gb301)); have n8_:=Aside0.mk ((by rw [hg]; exact Nat.ne_of_gt (blk_lt (g:=gb289) (o:=.cells #[.int .i64 a0_0,.int .i64 a0_1,.string a0_2,.slice A0_3 l0_3.length c0_3,.slice A0_4 l0_4.length c0_4] 33 (0,0)) (by (with_reducible repeat (first|refine blk_drewN ?_ _|refine blk_drew ?_|refine blk_alloc ?_ _)); exact BK289.out)):gb301 ≠ gb289)); have n9_:=Aside0.mk ((by rw [hg]; exact Nat.ne_of_lt (blk_lt (g:=gb290) (o:=.cells #[.int .i64 0,.int .i64 0,.int .i64 0,.int .i64 0] 28 (0,0)) (by (with_reducible repeat (first|refine blk_drewN ?_ _|refine blk_drew ?_|refine blk_alloc ?_ _)); exact BK290.out)):gb290 ≠ gb301)); have n10_:=Aside0.mk ((by rw [hg]; exact Nat.ne_of_gt (blk_lt (g:=gb290) (o:=.cells #[.int .i64 0,.int .i64 0,.int .i64 0,.int .i64 0] 28 (0,0)) (by (with_reducible repeat (first|refine blk_drewN ?_ _|refine blk_drew ?_|refine blk_alloc ?_ _)); exact BK290.out)):gb301 ≠ gb290)); clear HO294; clear BK289; clear BK290; clear HB; have HO294:=n0_; have BK289:=n1_; have BK290:=n2_; have HB:=n3_; have BK301:=n4_; have GW301:=n5_; have GE301:=n6_; have NB289_301:=n7_; have NB301_289:=n8_; have NB290_301:=n9_; have NB301_290:=n10_; clear n0_ n1_ n2_ n3_ n4_ n5_ n6_ n7_ n8_ n9_ n10_; clear hb hbox hg; have hnb29:=NB301_289.out; have hnc29:=NB289_301.out; have hnb30:=NB301_290.out; have hnc30:=NB290_301.out; have hcz31_0:w28.cell? ⟨gb301,0,none⟩=some (.int .i64 0):=(blk_cell BK301.out 0).trans rfl; have hcz31_1:w28.cell? ⟨gb301,1,none⟩=some (.int .i64 0):=(blk_cell BK301.out 1).trans rfl; have hcz31_2:w28.cell? ⟨gb301,2,none⟩=some (.int .i64 0):=(blk_cell BK301.out 2).trans rfl; have hcz31_3:w28.cell? ⟨gb301,3,none⟩=some (.int .i64 0):=(blk_cell BK301.out 3).trans rfl; have hfz31_0:=blk_frozen BK301.out 0; have hfz31_1:=blk_frozen BK301.out 1; have hfz31_2:=blk_frozen BK301.out 2; have hfz31_3:=blk_frozen BK301.out 3)|((with_reducible refine gate_dst (N:=32) rfl ?_); refine Kd.R_lit Kd.string _ 9 ?hg (N:=32) ?hd (xs:=([(⟨#[100,111,119,110]⟩:ByteArray),(⟨#[100,111,119,110,115,112,97,110]⟩:ByteArray),(⟨#[117,112]⟩:ByteArray),(⟨#[117,112,115,112,97,110]⟩:ByteArray)]:List ByteArray)) (inner:=[.string (⟨#[100,111,119,110]⟩:ByteArray),.string (⟨#[100,111,119,110,115,112,97,110]⟩:ByteArray),.string (⟨#[117,112]⟩:ByteArray),.string (⟨#[117,112,115,112,97,110]⟩:ByteArray)]) (ok:=fun _=>True) (okp:=fun _=>True) ?hr ?hp (fun _ hk=>hk) trivial (Below.refl _ _) (Nat.le_refl _) (by simp) ?_; (case hd=>rfl); (case hg=>rfl); (case hr=>first|(go_simp; done)|(go_simp; rfl)); (case hp=>exact (Reps.one (show Kd.M Kd.string _ _ _ (⟨#[100,111,119,110]⟩:ByteArray) [.string (⟨#[100,111,119,110]⟩:ByteArray)] from rfl) (Reps.one (show Kd.M Kd.string _ _ _ (⟨#[100,111,119,110,115,112,97,110]⟩:ByteArray) [.string (⟨#[100,111,119,110,115,112,97,110]⟩:ByteArray)] from rfl) (Reps.one (show Kd.M Kd.string _ _ _ (⟨#[117,112]⟩:ByteArray) [.string (⟨#[117,112]⟩:ByteArray)] from rfl) (Reps.one (show Kd.M Kd.string _ _ _ (⟨#[117,112,115,112,97,110]⟩:ByteArray) [.string (⟨#[117,112,115,112,97,110]⟩:ByteArray)] from rfl) (Reps.none _ _)))))); intro v303 w32 ho33 hb hg_ hnew_; clear hg_ hnew_; (first|rw [← Ny302.out] at ho33|(simp only [Int.reduceToNat] at ho33; rw [← Ny302.out] at ho33)); have n0_:=Aside0.mk (Kd.R_elder' (by (with_reducible repeat (first|apply Kd.R_alloc|apply Kd.R_drewN|apply Kd.R_drew)); exact (Kd.R_mono (Kd.R_far (p:=⟨gb301,3,none⟩) (Kd.R_far (p:=⟨gb301,2,none⟩) (Kd.R_far (p:=⟨gb301,1,none⟩) (Kd.R_far (p:=⟨gb301,0,none⟩) (Kd.R_types HO294.out BK301.out (by decide)) (fun _ hk=>hk.2) (.int .i64 t297)) (fun _ hk=>hk.2) (.int .i64 t298)) (fun _ hk=>hk.2) (.int .i64 t299)) (fun _ hk=>hk.2) (.int .i64 t300)) (fun _ h_=>h_.1))) (Kd.R_base ho33) hb); have n1_:=Aside0.mk (Kd.R_lower (Kd.R_new' ho33 (Kd.R_lt (by (with_reducible repeat (first|apply Kd.R_alloc|apply Kd.R_drewN|apply Kd.R_drew)); exact (Kd.R_mono (Kd.R_far (p:=⟨gb301,3,none⟩) (Kd.R_far (p:=⟨gb301,2,none⟩) (Kd.R_far (p:=⟨gb301,1,none⟩) (Kd.R_far (p:=⟨gb301,0,none⟩) (Kd.R_types HO294.out BK301.out (by decide)) (fun _ hk=>hk.2) (.int .i64 t297)) (fun _ hk=>hk.2) (.int .i64 t298)) (fun _ hk=>hk.2) (.int .i64 t299)) (fun _ hk=>hk.2) (.int .i64 t300)) (fun _ h_=>h_.1))))) (below_size (by repeat (first|(with_reducible first|exact HB.out|apply below_alloc|apply pw_below_drewN|apply below_drew1|refine below_set ?_ GE289.out|refine below_set ?_ GE290.out|refine below_set ?_ GE301.out)|exact HB.out)))); have n2_:=Aside0.mk (blk_below (g:=gb289) (o:=.cells #[.int .i64 a0_0,.int .i64 a0_1,.string a0_2,.slice A0_3 l0_3.length c0_3,.slice A0_4 l0_4.length c0_4] 33 (0,0)) (by (with_reducible repeat (first|refine blk_drewN ?_ _|refine blk_drew ?_|refine blk_alloc ?_ _)); refine blk_far ?_ NB289_301.out _; (with_reducible repeat (first|refine blk_drewN ?_ _|refine blk_drew ?_|refine blk_alloc ?_ _)); refine blk_far ?_ NB289_301.out _; (with_reducible repeat (first|refine blk_drewN ?_ _|refine blk_drew ?_|refine blk_alloc ?_ _)); refine blk_far ?_ NB289_301.out _; (with_reducible repeat (first|refine blk_drewN ?_ _|refine blk_drew ?_|refine blk_alloc ?_ _)); refine blk_far ?_ NB289_301.out _; (with_reducible repeat (first|refine blk_drewN ?_ _|refine blk_drew ?_|refine blk_alloc ?_ _)); exact BK289.out) hb); have n3_:=Aside0.mk (blk_below (g:=gb290) (o:=.cells #[.int .i64 0,.int .i64 0,.int .i64 0,.int .i64 0] 28 (0,0)) (by (with_reducible repeat (first|refine blk_drewN ?_ _|refine blk_drew ?_|refine blk_alloc ?_ _)); refine blk_far ?_ NB290_301.out _; (with_reducible repeat (first|refine blk_drewN ?_ _|refine blk_drew ?_|refine blk_alloc ?_ _)); refine blk_far ?_ NB290_301.out _; (with_reducible repeat (first|refine blk_drewN ?_ _|refine blk_drew ?_|refine blk_alloc ?_ _)); refine blk_far ?_ NB290_301.out _; (with_reducible repeat (first|refine blk_drewN ?_ _|refine blk_drew ?_|refine blk_alloc ?_ _)); refine blk_far ?_ NB290_301.out _; (with_reducible repeat (first|refine blk_drewN ?_ _|refine blk_drew ?_|refine blk_alloc ?_ _)); exact BK290.out) hb); have n4_:=Aside0.mk (blk_below (g:=gb301) (o:=.cells #[.int .i64 t297,.int .i64 t298,.int .i64 t299,.int .i64 t300] 28 (0,0)) (by (with_reducible repeat (first|refine blk_drewN ?_ _|refine blk_drew ?_|refine blk_alloc ?_ _)); refine blk_put (cs:=#[.int .i64 t297,.int .i64 t298,.int .i64 t299,.int .i64 0]) ?_ 3 _ rfl; (with_reducible repeat (first|refine blk_drewN ?_ _|refine blk_drew ?_|refine blk_alloc ?_ _)); refine blk_put (cs:=#[.int .i64 t297,.int .i64 t298,.int .i64 0,.int .i64 0]) ?_ 2 _ rfl; (with_reducible repeat (first|refine blk_drewN ?_ _|refine blk_drew ?_|refine blk_alloc ?_ _)); refine blk_put (cs:=#[.int .i64 t297,.int .i64 0,.int .i64 0,.int .i64 0]) ?_ 1 _ rfl; (with_reducible repeat (first|refine blk_drewN ?_ _|refine blk_drew ?_|refine blk_alloc ?_ _)); refine blk_put (cs:=#[.int .i64 0,.int .i64 0,.int .i64 0,.int .i64 0]) ?_ 0 _ rfl; (with_reducible repeat (first|refine blk_drewN ?_ _|refine blk_drew ?_|refine blk_alloc ?_ _)); exact BK301.out) hb); have n5_:=Aside0.mk (below_step (by repeat (first|(with_reducible first|exact HB.out|apply below_alloc|apply pw_below_drewN|apply below_drew1|refine below_set ?_ GE289.out|refine below_set ?_ GE290.out|refine below_set ?_ GE301.out)|exact HB.out)) hb); clear HO294; clear BK289; clear BK290; clear BK301; clear HB; have HO294:=n0_; have HO304:=n1_; have BK289:=n2_; have BK290:=n3_; have BK301:=n4_; have HB:=n5_; clear n0_ n1_ n2_ n3_ n4_ n5_; clear hb ho33; obtain ⟨Ao34,co34,eo34⟩:=Kd.R_slice HO304.out; subst eo34))
     go_loopg [34] kj1 (fun kq v34 w'=>∃ (x34_2:Int) (x291000_2:Int) (x291001_2:Int) (x291002_2:Int) (x291003_2:Int) (x302000_2:Int) (x302001_2:Int) (x302002_2:Int) (x302003_2:Int),v34=.int .i64 x34_2∧Aside0 (impl_PaceOf.l0 kq y302 (y302.length:Int) x34_2 a0_0 a0_1 a0_2 l0_3 l0_4 x302000_2 x302001_2 x302002_2 x302003_2=some (r1,r2,r3,r4,r5))∧Aside0 (kq≤kj1)∧Aside0 (Kd.R Kd.string 9 w' w.heap.size (fun _=>True) (.slice Ao34 y302.length co34) y302)∧Aside0 (w'.heap[gb289]?=some (.cells #[.int .i64 a0_0,.int .i64 a0_1,.string a0_2,(.slice A0_3 l0_3.length c0_3),(.slice A0_4 l0_4.length c0_4)] 33 (0,0)))∧Aside0 (w'.heap[gb290]?=some (.cells #[.int .i64 x291000_2,.int .i64 x291001_2,.int .i64 x291002_2,.int .i64 x291003_2] 28 (0,0)))∧Aside0 (w'.heap[gb301]?=some (.cells #[.int .i64 x302000_2,.int .i64 x302001_2,.int .i64 x302002_2,.int .i64 x302003_2] 28 (0,0)))∧Aside0 (Below w.heap.size w w'))
     case atStart=>exact ⟨(0),(0),(0),(0),(0),(t297),(t298),(t299),(t300),(by first|rfl|(simp; done)|(simp [*]; done)),H',⟨Nat.le_refl _⟩,⟨by (with_reducible repeat (first|apply Kd.R_alloc|apply Kd.R_drewN|apply Kd.R_drew)); exact Kd.R_mono HO304.out (fun _ hk=>trivial)⟩,⟨by (with_reducible repeat (first|refine blk_drewN ?_ _|refine blk_drew ?_|refine blk_alloc ?_ _)); exact BK289.out⟩,⟨by (with_reducible repeat (first|refine blk_drewN ?_ _|refine blk_drew ?_|refine blk_alloc ?_ _)); exact BK290.out⟩,⟨by (with_reducible repeat (first|refine blk_drewN ?_ _|refine blk_drew ?_|refine blk_alloc ?_ _)); exact BK301.out⟩,⟨by repeat (first|(with_reducible first|exact HB.out|apply below_alloc|apply pw_below_drewN|apply below_drew1|refine below_set ?_ GE289.out|refine below_set ?_ GE290.out|refine below_set ?_ GE301.out)|exact HB.out)⟩⟩
     case round =>
      clear H'
      try clear c1
      try clear c2
      try clear p2
      try clear c3
      try clear c5
      try clear c5b0
      try clear c5b1
      try clear c7
      try clear c8
      try clear c10
      try clear c12
      try clear c13
      try clear c17
      try clear c23
      try clear c24
      try clear c29
      try clear c30
      try clear hcz11_0
      try clear hcz11_1
      try clear hcz11_2
      try clear hcz11_3
      try clear hcz11_4
      try clear hcz14_0
      try clear hcz14_1
      try clear hcz14_2
      try clear hcz14_3
      try clear hcz18_0
      try clear hcz18_1
      try clear hcz18_2
      try clear hcz18_3
      try clear hcz18_4
      try clear hcz25_0
      try clear hcz25_1
      try clear hcz25_2
      try clear hcz25_3
      try clear hcz31_0
      try clear hcz31_1
      try clear hcz31_2
      try clear hcz31_3
      try clear hcz8_0
      try clear hcz8_1
      try clear hcz8_2
      try clear hcz8_3
      try clear hcz8_4
      try clear hfz11_0
      try clear hfz11_1
      try clear hfz11_2
      try clear hfz11_3
      try clear hfz11_4
      try clear hfz14_0
      try clear hfz14_1
      try clear hfz14_2
      try clear hfz14_3
      try clear hfz18_0
      try clear hfz18_1
      try clear hfz18_2
      try clear hfz18_3
      try clear hfz18_4
      try clear hfz25_0
      try clear hfz25_1
      try clear hfz25_2
      try clear hfz25_3
      try clear hfz31_0
      try clear hfz31_1
      try clear hfz31_2
      try clear hfz31_3
      try clear hfz8_0
      try clear hfz8_1
      try clear hfz8_2
      try clear hfz8_3
      try clear hfz8_4
      try clear p2
      obtain ⟨x34_2,x291000_2,x291001_2,x291002_2,x291003_2,x302000_2,x302001_2,x302002_2,x302003_2,rfl,HA,HK2,HO_32,BK289,BK290,BK301,HB⟩:=hrel
      cases gk with
      |zero=>exact absurd HA.out (by simp [impl_PaceOf.l0])
      |succ k2 =>
       have H:=HA.out
       clear HA
       simp only [impl_PaceOf.l0] at H
       by_cases c35:x34_2<(y302.length:Int)
       ·rw [if_pos c35] at H
        have c35b0:decide (x34_2<(y302.length:Int))=true:=decide_eq_true c35
        clear c35
        (first|rw [c35b0]|(simp only [i64_w,i32_w]; rw [c35b0])|skip)
        by_cases c36:0≤x34_2
        ·rw [if_pos c36] at H
         have c36b0:decide (0≤x34_2)=true:=decide_eq_true c36
         clear c36
         by_cases c37:x34_2<(y302.length:Int)
         ·rw [if_pos c37] at H
          have c37b0:decide (x34_2<(y302.length:Int))=true:=decide_eq_true c37
          clear c37
          replace H:=Option.bind_eq_some_iff.mp H
          obtain ⟨t306,A380,H⟩:=H
          replace H:((slices_Contains_string_string.f k2 t306 (rdOf ByteArray.empty y302 x34_2)).bind fun t309=>(if t309=true then ((impl_Get.f a0_0 a0_1 a0_2 l0_3 l0_4 (rdOf ByteArray.empty y302 x34_2)).bind fun bt310=>(if bt310.1=2 then ((impl_isMany.f bt310.2.1).bind fun t321=>(impl_PaceOf.j2 k2 (rdOf ByteArray.empty y302 x34_2) bt310.2.1 t321 y302 (y302.length:Int) x34_2 a0_0 a0_1 a0_2 l0_3 l0_4 x302000_2 x302001_2 x302002_2 x302003_2 bt310.1 bt310.2.1 bt310.2.2.1 bt310.2.2.2.1 bt310.2.2.2.2.1)) else (impl_PaceOf.j2 k2 (rdOf ByteArray.empty y302 x34_2) bt310.2.1 false y302 (y302.length:Int) x34_2 a0_0 a0_1 a0_2 l0_3 l0_4 x302000_2 x302001_2 x302002_2 x302003_2 bt310.1 bt310.2.1 bt310.2.2.1 bt310.2.2.2.1 bt310.2.2.2.2.1))) else (impl_PaceOf.l0 k2 y302 (y302.length:Int) (wrap64 (x34_2+1)) a0_0 a0_1 a0_2 l0_3 l0_4 x302000_2 x302001_2 x302002_2 x302003_2)))=some (r1,r2,r3,r4,r5):=H
          have A38:=Aside0.mk A380
          clear A380
          replace H:=Option.bind_eq_some_iff.mp H
          obtain ⟨t309,A390,H⟩:=H
          replace H:(if t309=true then ((impl_Get.f a0_0 a0_1 a0_2 l0_3 l0_4 (rdOf ByteArray.empty y302 x34_2)).bind fun bt310=>(if bt310.1=2 then ((impl_isMany.f bt310.2.1).bind fun t321=>(impl_PaceOf.j2 k2 (rdOf ByteArray.empty y302 x34_2) bt310.2.1 t321 y302 (y302.length:Int) x34_2 a0_0 a0_1 a0_2 l0_3 l0_4 x302000_2 x302001_2 x302002_2 x302003_2 bt310.1 bt310.2.1 bt310.2.2.1 bt310.2.2.2.1 bt310.2.2.2.2.1)) else (impl_PaceOf.j2 k2 (rdOf ByteArray.empty y302 x34_2) bt310.2.1 false y302 (y302.length:Int) x34_2 a0_0 a0_1 a0_2 l0_3 l0_4 x302000_2 x302001_2 x302002_2 x302003_2 bt310.1 bt310.2.1 bt310.2.2.1 bt310.2.2.2.1 bt310.2.2.2.2.1))) else (impl_PaceOf.l0 k2 y302 (y302.length:Int) (wrap64 (x34_2+1)) a0_0 a0_1 a0_2 l0_3 l0_4 x302000_2 x302001_2 x302002_2 x302003_2))=some (r1,r2,r3,r4,r5):=H
          have A39:=Aside0.mk A390
          clear A390
          have HC40:=Aside0.mk H
          clear H
          have p305:0≤(x34_2:Int):=of_decide_eq_true (by first|(with_reducible assumption)|assumption)
          have q305:x34_2<(y302.length:Int):=of_decide_eq_true (by first|(with_reducible assumption)|assumption)
          obtain ⟨ad305,e305,hx305_0⟩:=Kd.at_string (Kd.R_reads' HO_32.out).2.2 x34_2 p305 q305
          cases e305
          replace p305:=eq_true p305
          replace q305:=eq_true q305
          have hnb41:=NB289_290.out
          have hnc41:=NB290_289.out
          have hnb42:=NB289_301.out
          have hnc42:=NB301_289.out
          have hcz43_0:wr.cell? ⟨gb289,0,none⟩=some (.int .i64 a0_0):=(blk_cell BK289.out 0).trans rfl
          have hcz43_1:wr.cell? ⟨gb289,1,none⟩=some (.int .i64 a0_1):=(blk_cell BK289.out 1).trans rfl
          have hcz43_2:wr.cell? ⟨gb289,2,none⟩=some (.string a0_2):=(blk_cell BK289.out 2).trans rfl
          have hcz43_3:wr.cell? ⟨gb289,3,none⟩=some (.slice A0_3 l0_3.length c0_3):=(blk_cell BK289.out 3).trans rfl
          have hcz43_4:wr.cell? ⟨gb289,4,none⟩=some (.slice A0_4 l0_4.length c0_4):=(blk_cell BK289.out 4).trans rfl
          have hfz43_0:=blk_frozen BK289.out 0
          have hfz43_1:=blk_frozen BK289.out 1
          have hfz43_2:=blk_frozen BK289.out 2
          have hfz43_3:=blk_frozen BK289.out 3
          have hfz43_4:=blk_frozen BK289.out 4
          go_upto_if 42 with (first|(go_at_call 29; (with_reducible refine (impl_keysOf.calls a0_0 a0_1 a0_2 _ _ l0_3 _ _ l0_4 t306 _ ?side1 ?side2 ?side3 ?side4 A38.out).mono ?_); (case side1=>repeat (first|exact (Kd.C_below HR0_3.out HB.out)|(with_reducible refine Kd.C_alloc ?_ _)|(with_reducible refine Kd.C_drewN ?_ _)|(with_reducible refine Kd.C_drew ?_))); (case side2=>exact HC0_3.out); (case side3=>repeat (first|exact (Kd.C_below HR0_4.out HB.out)|(with_reducible refine Kd.C_alloc ?_ _)|(with_reducible refine Kd.C_drewN ?_ _)|(with_reducible refine Kd.C_drew ?_))); (case side4=>exact HC0_4.out); rintro e w44 ⟨v307,rfl,ho0,hb⟩; have n0_:=Aside0.mk (Kd.R_elder' (by (with_reducible repeat (first|apply Kd.R_alloc|apply Kd.R_drewN|apply Kd.R_drew)); exact HO_32.out) (Kd.R_base ho0) hb); have n1_:=Aside0.mk (Kd.R_lower (Kd.R_new' ho0 (Kd.R_lt (by (with_reducible repeat (first|apply Kd.R_alloc|apply Kd.R_drewN|apply Kd.R_drew)); exact HO_32.out))) (below_size (by repeat (first|(with_reducible first|exact HB.out|apply below_alloc|apply pw_below_drewN|apply below_drew1|refine below_set ?_ GE289.out|refine below_set ?_ GE290.out|refine below_set ?_ GE301.out)|exact HB.out)))); have n2_:=Aside0.mk (blk_below (g:=gb289) (o:=.cells #[.int .i64 a0_0,.int .i64 a0_1,.string a0_2,.slice A0_3 l0_3.length c0_3,.slice A0_4 l0_4.length c0_4] 33 (0,0)) (by (with_reducible repeat (first|refine blk_drewN ?_ _|refine blk_drew ?_|refine blk_alloc ?_ _)); exact BK289.out) hb); have n3_:=Aside0.mk (blk_below (g:=gb290) (o:=.cells #[.int .i64 x291000_2,.int .i64 x291001_2,.int .i64 x291002_2,.int .i64 x291003_2] 28 (0,0)) (by (with_reducible repeat (first|refine blk_drewN ?_ _|refine blk_drew ?_|refine blk_alloc ?_ _)); exact BK290.out) hb); have n4_:=Aside0.mk (blk_below (g:=gb301) (o:=.cells #[.int .i64 x302000_2,.int .i64 x302001_2,.int .i64 x302002_2,.int .i64 x302003_2] 28 (0,0)) (by (with_reducible repeat (first|refine blk_drewN ?_ _|refine blk_drew ?_|refine blk_alloc ?_ _)); exact BK301.out) hb); have n5_:=Aside0.mk (below_step (by repeat (first|(with_reducible first|exact HB.out|apply below_alloc|apply pw_below_drewN|apply below_drew1|refine below_set ?_ GE289.out|refine below_set ?_ GE290.out|refine below_set ?_ GE301.out)|exact HB.out)) hb); clear HO_32; clear BK289; clear BK290; clear BK301; clear HB; have HO_32:=n0_; have HO308:=n1_; have BK289:=n2_; have BK290:=n3_; have BK301:=n4_; have HB:=n5_; clear n0_ n1_ n2_ n3_ n4_ n5_; (try clear hb); (try clear hb2); (try clear hk); (try clear hi); (try clear ho0); obtain ⟨Ao45,co45,eo45⟩:=Kd.R_slice HO308.out; subst eo45)|(go_at_call 28; (with_reducible refine (slices_Contains_string_string.calls k2 _ _ t306 (rdOf ByteArray.empty y302 x34_2) t309 _ ?side1 ?side2 A39.out).mono ?_); (case side1=>repeat (first|exact (Kd.R_reads' HO308.out).2.2|(with_reducible refine Kd.C_alloc ?_ _)|(with_reducible refine Kd.C_drewN ?_ _)|(with_reducible refine Kd.C_drew ?_))); (case side2=>exact (Kd.R_reads' HO308.out).2.1); rintro e w' ⟨rfl,⟨nd,rfl⟩⟩; (try first|exact ⟨rfl,_,World.drewN_drewN _ _ _⟩|exact ⟨rfl,_,Eq.trans (World.drewN_drewN _ _ _) (congrArg (World.drewN _) (Nat.add_assoc _ _ _))⟩)))
          (try simp only [Act.put,List.setIfInBounds_toArray,List.set_cons_zero,List.set_cons_succ])
          try clear hx305_0
          have H:=HC40.out
          clear HC40
          by_cases c46:t309=true
          ·subst c46
           have H1:((impl_Get.f a0_0 a0_1 a0_2 l0_3 l0_4 (rdOf ByteArray.empty y302 x34_2)).bind fun bt310=>(if bt310.1=2 then ((impl_isMany.f bt310.2.1).bind fun t321=>(impl_PaceOf.j2 k2 (rdOf ByteArray.empty y302 x34_2) bt310.2.1 t321 y302 (y302.length:Int) x34_2 a0_0 a0_1 a0_2 l0_3 l0_4 x302000_2 x302001_2 x302002_2 x302003_2 bt310.1 bt310.2.1 bt310.2.2.1 bt310.2.2.2.1 bt310.2.2.2.2.1)) else (impl_PaceOf.j2 k2 (rdOf ByteArray.empty y302 x34_2) bt310.2.1 false y302 (y302.length:Int) x34_2 a0_0 a0_1 a0_2 l0_3 l0_4 x302000_2 x302001_2 x302002_2 x302003_2 bt310.1 bt310.2.1 bt310.2.2.1 bt310.2.2.2.1 bt310.2.2.2.2.1)))=some (r1,r2,r3,r4,r5):=by rw [if_pos rfl] at H; exact H
           clear H
           have H:=H1
           clear H1
           replace H:=Option.bind_eq_some_iff.mp H
           obtain ⟨⟨t310,t311,t312,t313,t316,t319⟩,A470,H⟩:=H
           replace H:(if t310=2 then ((impl_isMany.f t311).bind fun t321=>(impl_PaceOf.j2 k2 (rdOf ByteArray.empty y302 x34_2) t311 t321 y302 (y302.length:Int) x34_2 a0_0 a0_1 a0_2 l0_3 l0_4 x302000_2 x302001_2 x302002_2 x302003_2 t310 t311 t312 t313 t316)) else (impl_PaceOf.j2 k2 (rdOf ByteArray.empty y302 x34_2) t311 false y302 (y302.length:Int) x34_2 a0_0 a0_1 a0_2 l0_3 l0_4 x302000_2 x302001_2 x302002_2 x302003_2 t310 t311 t312 t313 t316))=some (r1,r2,r3,r4,r5):=H
           have A47:=Aside0.mk A470
           clear A470
           have HC48:=Aside0.mk H
           clear H
           have hnb49:=NB289_290.out
           have hnc49:=NB290_289.out
           have hnb50:=NB289_301.out
           have hnc50:=NB301_289.out
           have hcz51_0:w44.cell? ⟨gb289,0,none⟩=some (.int .i64 a0_0):=(blk_cell BK289.out 0).trans rfl
           have hcz51_1:w44.cell? ⟨gb289,1,none⟩=some (.int .i64 a0_1):=(blk_cell BK289.out 1).trans rfl
           have hcz51_2:w44.cell? ⟨gb289,2,none⟩=some (.string a0_2):=(blk_cell BK289.out 2).trans rfl
           have hcz51_3:w44.cell? ⟨gb289,3,none⟩=some (.slice A0_3 l0_3.length c0_3):=(blk_cell BK289.out 3).trans rfl
           have hcz51_4:w44.cell? ⟨gb289,4,none⟩=some (.slice A0_4 l0_4.length c0_4):=(blk_cell BK289.out 4).trans rfl
           have hfz51_0:=blk_frozen BK289.out 0
           have hfz51_1:=blk_frozen BK289.out 1
           have hfz51_2:=blk_frozen BK289.out 2
           have hfz51_3:=blk_frozen BK289.out 3
           have hfz51_4:=blk_frozen BK289.out 4
           go_upto_region 12 with (first|(go_at_call 30; (with_reducible refine (impl_Get.calls a0_0 a0_1 a0_2 _ _ l0_3 _ _ l0_4 (rdOf ByteArray.empty y302 x34_2) t310 t311 t312 t313 t316 t319 _ ?side1 ?side2 ?side3 ?side4 A47.out).mono ?_); (case side1=>repeat (first|exact (Kd.C_below HR0_3.out HB.out)|(with_reducible refine Kd.C_alloc ?_ _)|(with_reducible refine Kd.C_drewN ?_ _)|(with_reducible refine Kd.C_drew ?_))); (case side2=>exact HC0_3.out); (case side3=>repeat (first|exact (Kd.C_below HR0_4.out HB.out)|(with_reducible refine Kd.C_alloc ?_ _)|(with_reducible refine Kd.C_drewN ?_ _)|(with_reducible refine Kd.C_drew ?_))); (case side4=>exact HC0_4.out); rintro e w52 ⟨v314,v317,rfl,ho0,ho1,hb⟩; have n0_:=Aside0.mk (Kd.R_elder' (by (with_reducible repeat (first|apply Kd.R_alloc|apply Kd.R_drewN|apply Kd.R_drew)); exact HO_32.out) (Kd.R_base ho0) hb); have n1_:=Aside0.mk (Kd.R_elder' (by (with_reducible repeat (first|apply Kd.R_alloc|apply Kd.R_drewN|apply Kd.R_drew)); exact HO308.out) (Kd.R_base ho0) hb); have n2_:=Aside0.mk (Kd.R_lower (Kd.R_new' (Kd.R_new' ho0 (Kd.R_lt (by (with_reducible repeat (first|apply Kd.R_alloc|apply Kd.R_drewN|apply Kd.R_drew)); exact HO_32.out))) (Kd.R_lt (by (with_reducible repeat (first|apply Kd.R_alloc|apply Kd.R_drewN|apply Kd.R_drew)); exact HO308.out))) (below_size (by repeat (first|(with_reducible first|exact HB.out|apply below_alloc|apply pw_below_drewN|apply below_drew1|refine below_set ?_ GE289.out|refine below_set ?_ GE290.out|refine below_set ?_ GE301.out)|exact HB.out)))); have n3_:=Aside0.mk (Kd.R_lower (Kd.R_newB (Kd.R_new' (Kd.R_new' ho1 (Kd.R_lt (by (with_reducible repeat (first|apply Kd.R_alloc|apply Kd.R_drewN|apply Kd.R_drew)); exact HO_32.out))) (Kd.R_lt (by (with_reducible repeat (first|apply Kd.R_alloc|apply Kd.R_drewN|apply Kd.R_drew)); exact HO308.out))) (g:=gb289) (o:=.cells #[.int .i64 a0_0,.int .i64 a0_1,.string a0_2,.slice A0_3 l0_3.length c0_3,.slice A0_4 l0_4.length c0_4] 33 (0,0)) (by (with_reducible repeat (first|refine blk_drewN ?_ _|refine blk_drew ?_|refine blk_alloc ?_ _)); exact BK289.out)) (below_size (by repeat (first|(with_reducible first|exact HB.out|apply below_alloc|apply pw_below_drewN|apply below_drew1|refine below_set ?_ GE289.out|refine below_set ?_ GE290.out|refine below_set ?_ GE301.out)|exact HB.out)))); have n4_:=Aside0.mk (blk_below (g:=gb289) (o:=.cells #[.int .i64 a0_0,.int .i64 a0_1,.string a0_2,.slice A0_3 l0_3.length c0_3,.slice A0_4 l0_4.length c0_4] 33 (0,0)) (by (with_reducible repeat (first|refine blk_drewN ?_ _|refine blk_drew ?_|refine blk_alloc ?_ _)); exact BK289.out) hb); have n5_:=Aside0.mk (blk_below (g:=gb290) (o:=.cells #[.int .i64 x291000_2,.int .i64 x291001_2,.int .i64 x291002_2,.int .i64 x291003_2] 28 (0,0)) (by (with_reducible repeat (first|refine blk_drewN ?_ _|refine blk_drew ?_|refine blk_alloc ?_ _)); exact BK290.out) hb); have n6_:=Aside0.mk (blk_below (g:=gb301) (o:=.cells #[.int .i64 x302000_2,.int .i64 x302001_2,.int .i64 x302002_2,.int .i64 x302003_2] 28 (0,0)) (by (with_reducible repeat (first|refine blk_drewN ?_ _|refine blk_drew ?_|refine blk_alloc ?_ _)); exact BK301.out) hb); have n7_:=Aside0.mk (below_step (by repeat (first|(with_reducible first|exact HB.out|apply below_alloc|apply pw_below_drewN|apply below_drew1|refine below_set ?_ GE289.out|refine below_set ?_ GE290.out|refine below_set ?_ GE301.out)|exact HB.out)) hb); clear HO_32; clear HO308; clear BK289; clear BK290; clear BK301; clear HB; have HO_32:=n0_; have HO308:=n1_; have HO315:=n2_; have HO318:=n3_; have BK289:=n4_; have BK290:=n5_; have BK301:=n6_; have HB:=n7_; clear n0_ n1_ n2_ n3_ n4_ n5_ n6_ n7_; (try clear hb); (try clear hb2); (try clear hk); (try clear hi); (try clear ho0); (try clear ho1))|((with_reducible refine gate_dst (N:=9) rfl ?_); refine box_event ?hg (N:=9) ?hd (cs:=#[.int .i64 0,.int .i64 0,.string (⟨#[]⟩:ByteArray),.slice none 0 0,.slice none 0 0]) (t:=33) ?hr ?_; (case hd=>rfl); (case hg=>rfl); (case hr=>first|(go_simp; done)|(go_simp; rfl)); intro gb320 hg w53 hbox hb; have n0_:=Aside0.mk (Kd.R_below (by (with_reducible repeat (first|apply Kd.R_alloc|apply Kd.R_drewN|apply Kd.R_drew)); exact HO_32.out) hb); have n1_:=Aside0.mk (Kd.R_below (by (with_reducible repeat (first|apply Kd.R_alloc|apply Kd.R_drewN|apply Kd.R_drew)); exact HO308.out) hb); have n2_:=Aside0.mk (Kd.R_below (by (with_reducible repeat (first|apply Kd.R_alloc|apply Kd.R_drewN|apply Kd.R_drew)); exact HO315.out) hb); have n3_:=Aside0.mk (Kd.R_below (Kd.R_elderB (by (with_reducible repeat (first|apply Kd.R_alloc|apply Kd.R_drewN|apply Kd.R_drew)); exact HO318.out) gb320 (Nat.le_of_eq hg.symm)) hb); have n4_:=Aside0.mk (blk_below (g:=gb289) (o:=.cells #[.int .i64 a0_0,.int .i64 a0_1,.string a0_2,.slice A0_3 l0_3.length c0_3,.slice A0_4 l0_4.length c0_4] 33 (0,0)) (by (with_reducible repeat (first|refine blk_drewN ?_ _|refine blk_drew ?_|refine blk_alloc ?_ _)); exact BK289.out) hb); have n5_:=Aside0.mk (blk_below (g:=gb290) (o:=.cells #[.int .i64 x291000_2,.int .i64 x291001_2,.int .i64 x291002_2,.int .i64 x291003_2] 28 (0,0)) (by (with_reducible repeat (first|refine blk_drewN ?_ _|refine blk_drew ?_|refine blk_alloc ?_ _)); exact BK290.out) hb); have n6_:=Aside0.mk (blk_below (g:=gb301) (o:=.cells #[.int .i64 x302000_2,.int .i64 x302001_2,.int .i64 x302002_2,.int .i64 x302003_2] 28 (0,0)) (by (with_reducible repeat (first|refine blk_drewN ?_ _|refine blk_drew ?_|refine blk_alloc ?_ _)); exact BK301.out) hb); have n7_:=Aside0.mk (below_step (by repeat (first|(with_reducible first|exact HB.out|apply below_alloc|apply pw_below_drewN|apply below_drew1|refine below_set ?_ GE289.out|refine below_set ?_ GE290.out|refine below_set ?_ GE301.out)|exact HB.out)) hb); have n8_:=Aside0.mk (hbox); have n9_:=Aside0.mk ((by rw [hg]; exact (below_size (by repeat (first|(with_reducible first|exact HB.out|apply below_alloc|apply pw_below_drewN|apply below_drew1|refine below_set ?_ GE289.out|refine below_set ?_ GE290.out|refine below_set ?_ GE301.out)|exact HB.out))):w.heap.size≤gb320)); have n10_:=Aside0.mk ((by rw [hg]; exact (below_size (by repeat (first|(with_reducible first|exact HB.out|apply below_alloc|apply pw_below_drewN|apply below_drew1|refine below_set ?_ GE289.out|refine below_set ?_ GE290.out|refine below_set ?_ GE301.out)|exact HB.out))):w.heap.size≤gb320)); have n11_:=Aside0.mk ((by rw [hg]; exact Nat.ne_of_lt (blk_lt (g:=gb289) (o:=.cells #[.int .i64 a0_0,.int .i64 a0_1,.string a0_2,.slice A0_3 l0_3.length c0_3,.slice A0_4 l0_4.length c0_4] 33 (0,0)) (by (with_reducible repeat (first|refine blk_drewN ?_ _|refine blk_drew ?_|refine blk_alloc ?_ _)); exact BK289.out)):gb289 ≠ gb320)); have n12_:=Aside0.mk ((by rw [hg]; exact Nat.ne_of_gt (blk_lt (g:=gb289) (o:=.cells #[.int .i64 a0_0,.int .i64 a0_1,.string a0_2,.slice A0_3 l0_3.length c0_3,.slice A0_4 l0_4.length c0_4] 33 (0,0)) (by (with_reducible repeat (first|refine blk_drewN ?_ _|refine blk_drew ?_|refine blk_alloc ?_ _)); exact BK289.out)):gb320 ≠ gb289)); have n13_:=Aside0.mk ((by rw [hg]; exact Nat.ne_of_lt (blk_lt (g:=gb290) (o:=.cells #[.int .i64 x291000_2,.int .i64 x291001_2,.int .i64 x291002_2,.int .i64 x291003_2] 28 (0,0)) (by (with_reducible repeat (first|refine blk_drewN ?_ _|refine blk_drew ?_|refine blk_alloc ?_ _)); exact BK290.out)):gb290 ≠ gb320)); have n14_:=Aside0.mk ((by rw [hg]; exact Nat.ne_of_gt (blk_lt (g:=gb290) (o:=.cells #[.int .i64 x291000_2,.int .i64 x291001_2,.int .i64 x291002_2,.int .i64 x291003_2] 28 (0,0)) (by (with_reducible repeat (first|refine blk_drewN ?_ _|refine blk_drew ?_|refine blk_alloc ?_ _)); exact BK290.out)):gb320 ≠ gb290)); have n15_:=Aside0.mk ((by rw [hg]; exact Nat.ne_of_lt (blk_lt (g:=gb301) (o:=.cells #[.int .i64 x302000_2,.int .i64 x302001_2,.int .i64 x302002_2,.int .i64 x302003_2] 28 (0,0)) (by (with_reducible repeat (first|refine blk_drewN ?_ _|refine blk_drew ?_|refine blk_alloc ?_ _)); exact BK301.out)):gb301 ≠ gb320)); have n16_:=Aside0.mk ((by rw [hg]; exact Nat.ne_of_gt (blk_lt (g:=gb301) (o:=.cells #[.int .i64 x302000_2,.int .i64 x302001_2,.int .i64 x302002_2,.int .i64 x302003_2] 28 (0,0)) (by (with_reducible repeat (first|refine blk_drewN ?_ _|refine blk_drew ?_|refine blk_alloc ?_ _)); exact BK301.out)):gb320 ≠ gb301)); clear HO_32; clear HO308; clear HO315; clear HO318; clear BK289; clear BK290; clear BK301; clear HB; have HO_32:=n0_; have HO308:=n1_; have HO315:=n2_; have HO318:=n3_; have BK289:=n4_; have BK290:=n5_; have BK301:=n6_; have HB:=n7_; have BK320:=n8_; have GW320:=n9_; have GE320:=n10_; have NB289_320:=n11_; have NB320_289:=n12_; have NB290_320:=n13_; have NB320_290:=n14_; have NB301_320:=n15_; have NB320_301:=n16_; clear n0_ n1_ n2_ n3_ n4_ n5_ n6_ n7_ n8_ n9_ n10_ n11_ n12_ n13_ n14_ n15_ n16_; clear hb hbox hg; have hnb54:=NB320_289.out; have hnc54:=NB289_320.out; have hnb55:=NB320_290.out; have hnc55:=NB290_320.out; have hnb56:=NB320_301.out; have hnc56:=NB301_320.out; have hcz57_0:w53.cell? ⟨gb320,0,none⟩=some (.int .i64 0):=(blk_cell BK320.out 0).trans rfl; have hcz57_1:w53.cell? ⟨gb320,1,none⟩=some (.int .i64 0):=(blk_cell BK320.out 1).trans rfl; have hcz57_2:w53.cell? ⟨gb320,2,none⟩=some (.string (⟨#[]⟩:ByteArray)):=(blk_cell BK320.out 2).trans rfl; have hcz57_3:w53.cell? ⟨gb320,3,none⟩=some (.slice none 0 0):=(blk_cell BK320.out 3).trans rfl; have hcz57_4:w53.cell? ⟨gb320,4,none⟩=some (.slice none 0 0):=(blk_cell BK320.out 4).trans rfl; have hfz57_0:=blk_frozen BK320.out 0; have hfz57_1:=blk_frozen BK320.out 1; have hfz57_2:=blk_frozen BK320.out 2; have hfz57_3:=blk_frozen BK320.out 3; have hfz57_4:=blk_frozen BK320.out 4; obtain ⟨Ao58,co58,eo58⟩:=Kd.R_slice HO315.out; subst eo58; obtain ⟨Ao59,co59,eo59⟩:=Kd.R_slice HO318.out; subst eo59))
           (try simp only [Act.put,List.setIfInBounds_toArray,List.set_cons_zero,List.set_cons_succ])
           go_cut [11,12] (fun v11 v12 wc=>∃ (kq:Nat) (x11_47:Int) (x12_47:Bool),v11=.int .i64 x11_47∧v12=.bool x12_47∧Aside0 (impl_PaceOf.j2 kq (rdOf ByteArray.empty y302 x34_2) x11_47 x12_47 y302 (y302.length:Int) x34_2 a0_0 a0_1 a0_2 l0_3 l0_4 x302000_2 x302001_2 x302002_2 x302003_2 t310 t311 t312 t313 t316=some (r1,r2,r3,r4,r5))∧Aside0 (kq≤k2)∧Aside0 (Kd.R Kd.string 9 wc w.heap.size (fun k_=>some k_ ≠ ((.slice Ao58 t313.length co58):Value).ownBlock) (.slice (some ad305) y302.length co34) y302)∧Aside0 (Kd.R Kd.string 9 wc w.heap.size (fun k_=>some k_ ≠ ((.slice (some ad305) y302.length co34):Value).ownBlock) (.slice Ao58 t313.length co58) t313)∧Aside0 (Kd.R k33 33 wc w.heap.size (fun k_=>some k_ ≠ ((.slice (some ad305) y302.length co34):Value).ownBlock∧some k_ ≠ ((.slice Ao58 t313.length co58):Value).ownBlock∧k_ ≠ gb289∧k_ ≠ gb320) (.slice Ao59 t316.length co59) t316)∧Aside0 (wc.heap[gb289]?=some (.cells #[.int .i64 a0_0,.int .i64 a0_1,.string a0_2,(.slice A0_3 l0_3.length c0_3),(.slice A0_4 l0_4.length c0_4)] 33 (0,0)))∧Aside0 (wc.heap[gb290]?=some (.cells #[.int .i64 x291000_2,.int .i64 x291001_2,.int .i64 x291002_2,.int .i64 x291003_2] 28 (0,0)))∧Aside0 (wc.heap[gb301]?=some (.cells #[.int .i64 x302000_2,.int .i64 x302001_2,.int .i64 x302002_2,.int .i64 x302003_2] 28 (0,0)))∧Aside0 (wc.heap[gb320]?=some (.cells #[.int .i64 t310,.int .i64 t311,.string t312,(.slice Ao58 t313.length co58),(.slice Ao59 t316.length co59)] 33 (0,0)))∧Aside0 (Below w.heap.size w wc))
           case first =>
            have H:=HC48.out
            clear HC48
            by_cases c60:t310=2
            ·rw [if_pos c60] at H
             have c60b0:(t310 == 2)=true:=beq_iff_eq.mpr c60
             have c60b1:(t310 != 2)=false:=bne_eq_false_iff_eq.mpr c60
             clear c60
             (first|rw [c60b0]|rw [c60b1]|(simp only [i64_w,i32_w]; rw [c60b0])|skip)
             replace H:=Option.bind_eq_some_iff.mp H
             obtain ⟨t321,A610,H⟩:=H
             replace H:(impl_PaceOf.j2 k2 (rdOf ByteArray.empty y302 x34_2) t311 t321 y302 (y302.length:Int) x34_2 a0_0 a0_1 a0_2 l0_3 l0_4 x302000_2 x302001_2 x302002_2 x302003_2 t310 t311 t312 t313 t316)=some (r1,r2,r3,r4,r5):=H
             have A61:=Aside0.mk A610
             clear A610
             have H':=Aside0.mk H
             clear H
             have hnb62:=NB320_289.out
             have hnc62:=NB289_320.out
             have hnb63:=NB320_290.out
             have hnc63:=NB290_320.out
             have hnb64:=NB320_301.out
             have hnc64:=NB301_320.out
             have hcz65_0:w53.cell? ⟨gb320,0,none⟩=some (.int .i64 0):=(blk_cell BK320.out 0).trans rfl
             have hcz65_1:w53.cell? ⟨gb320,1,none⟩=some (.int .i64 0):=(blk_cell BK320.out 1).trans rfl
             have hcz65_2:w53.cell? ⟨gb320,2,none⟩=some (.string (⟨#[]⟩:ByteArray)):=(blk_cell BK320.out 2).trans rfl
             have hcz65_3:w53.cell? ⟨gb320,3,none⟩=some (.slice none 0 0):=(blk_cell BK320.out 3).trans rfl
             have hcz65_4:w53.cell? ⟨gb320,4,none⟩=some (.slice none 0 0):=(blk_cell BK320.out 4).trans rfl
             have hfz65_0:=blk_frozen BK320.out 0
             have hfz65_1:=blk_frozen BK320.out 1
             have hfz65_2:=blk_frozen BK320.out 2
             have hfz65_3:=blk_frozen BK320.out 3
             have hfz65_4:=blk_frozen BK320.out 4
             go_wp2_with (first|(go_at_call 31; (with_reducible refine (impl_isMany.calls t311 t321 _ A61.out).mono ?_); rintro e w' ⟨rfl,⟨nd,rfl⟩⟩; (try first|exact ⟨rfl,_,World.drewN_drewN _ _ _⟩|exact ⟨rfl,_,Eq.trans (World.drewN_drewN _ _ _) (congrArg (World.drewN _) (Nat.add_assoc _ _ _))⟩)))
             repeat (go_quiet (first|(go_at_call 31; (with_reducible refine (impl_isMany.calls t311 t321 _ A61.out).mono ?_); rintro e w' ⟨rfl,⟨nd,rfl⟩⟩; (try first|exact ⟨rfl,_,World.drewN_drewN _ _ _⟩|exact ⟨rfl,_,Eq.trans (World.drewN_drewN _ _ _) (congrArg (World.drewN _) (Nat.add_assoc _ _ _))⟩))); try go_wp2_with (first|(go_at_call 31; (with_reducible refine (impl_isMany.calls t311 t321 _ A61.out).mono ?_); rintro e w' ⟨rfl,⟨nd,rfl⟩⟩; (try first|exact ⟨rfl,_,World.drewN_drewN _ _ _⟩|exact ⟨rfl,_,Eq.trans (World.drewN_drewN _ _ _) (congrArg (World.drewN _) (Nat.add_assoc _ _ _))⟩))))
             go_meet
             case rel=>exact ⟨_,(t311),(t321),(by first|rfl|(simp; done)|(simp [*]; done)),(by first|rfl|(simp; done)|(simp [*]; done)),H',⟨by have:=HJ1.out; have:=HK2.out; first|omega|exact Nat.le_refl _⟩,⟨by (with_reducible repeat (first|apply Kd.R_alloc|apply Kd.R_drewN|apply Kd.R_drew)); exact Kd.R_mono (Kd.R_far (p:=⟨gb320,4,none⟩) (Kd.R_far (p:=⟨gb320,3,none⟩) (Kd.R_far (p:=⟨gb320,2,none⟩) (Kd.R_far (p:=⟨gb320,1,none⟩) (Kd.R_far (p:=⟨gb320,0,none⟩) (Kd.R_types HO_32.out BK320.out (by decide)) (fun _ hk=>hk.2) (.int .i64 t310)) (fun _ hk=>hk.2) (.int .i64 t311)) (fun _ hk=>hk.2) (.string t312)) (fun _ hk=>hk.2) (.slice Ao58 t313.length co58)) (fun _ hk=>hk.2) (.slice Ao59 t316.length co59)) (fun _ hk=>hk.1.2)⟩,⟨by (with_reducible repeat (first|apply Kd.R_alloc|apply Kd.R_drewN|apply Kd.R_drew)); exact Kd.R_mono (Kd.R_far (p:=⟨gb320,4,none⟩) (Kd.R_far (p:=⟨gb320,3,none⟩) (Kd.R_far (p:=⟨gb320,2,none⟩) (Kd.R_far (p:=⟨gb320,1,none⟩) (Kd.R_far (p:=⟨gb320,0,none⟩) (Kd.R_types HO315.out BK320.out (by decide)) (fun _ hk=>hk.2) (.int .i64 t310)) (fun _ hk=>hk.2) (.int .i64 t311)) (fun _ hk=>hk.2) (.string t312)) (fun _ hk=>hk.2) (.slice Ao58 t313.length co58)) (fun _ hk=>hk.2) (.slice Ao59 t316.length co59)) (fun _ hk=>hk.1.1.2)⟩,⟨by (with_reducible repeat (first|apply Kd.R_alloc|apply Kd.R_drewN|apply Kd.R_drew)); exact Kd.R_mono (Kd.R_far (p:=⟨gb320,4,none⟩) (Kd.R_far (p:=⟨gb320,3,none⟩) (Kd.R_far (p:=⟨gb320,2,none⟩) (Kd.R_far (p:=⟨gb320,1,none⟩) (Kd.R_far (p:=⟨gb320,0,none⟩) (Kd.R_mono HO318.out (fun k_ hk=>(⟨hk,hk.2⟩:_∧k_ ≠ gb320))) (fun _ hk=>hk.2) (.int .i64 t310)) (fun _ hk=>hk.2) (.int .i64 t311)) (fun _ hk=>hk.2) (.string t312)) (fun _ hk=>hk.2) (.slice Ao58 t313.length co58)) (fun _ hk=>hk.2) (.slice Ao59 t316.length co59)) (fun _ hk=>⟨hk.1.1.1.1.2,⟨hk.1.1.1.1.1,⟨hk.1.1.2,hk.1.2⟩⟩⟩)⟩,⟨by (with_reducible repeat (first|refine blk_drewN ?_ _|refine blk_drew ?_|refine blk_alloc ?_ _)); refine blk_far ?_ NB289_320.out _; (with_reducible repeat (first|refine blk_drewN ?_ _|refine blk_drew ?_|refine blk_alloc ?_ _)); refine blk_far ?_ NB289_320.out _; (with_reducible repeat (first|refine blk_drewN ?_ _|refine blk_drew ?_|refine blk_alloc ?_ _)); refine blk_far ?_ NB289_320.out _; (with_reducible repeat (first|refine blk_drewN ?_ _|refine blk_drew ?_|refine blk_alloc ?_ _)); refine blk_far ?_ NB289_320.out _; (with_reducible repeat (first|refine blk_drewN ?_ _|refine blk_drew ?_|refine blk_alloc ?_ _)); refine blk_far ?_ NB289_320.out _; (with_reducible repeat (first|refine blk_drewN ?_ _|refine blk_drew ?_|refine blk_alloc ?_ _)); exact BK289.out⟩,⟨by (with_reducible repeat (first|refine blk_drewN ?_ _|refine blk_drew ?_|refine blk_alloc ?_ _)); refine blk_far ?_ NB290_320.out _; (with_reducible repeat (first|refine blk_drewN ?_ _|refine blk_drew ?_|refine blk_alloc ?_ _)); refine blk_far ?_ NB290_320.out _; (with_reducible repeat (first|refine blk_drewN ?_ _|refine blk_drew ?_|refine blk_alloc ?_ _)); refine blk_far ?_ NB290_320.out _; (with_reducible repeat (first|refine blk_drewN ?_ _|refine blk_drew ?_|refine blk_alloc ?_ _)); refine blk_far ?_ NB290_320.out _; (with_reducible repeat (first|refine blk_drewN ?_ _|refine blk_drew ?_|refine blk_alloc ?_ _)); refine blk_far ?_ NB290_320.out _; (with_reducible repeat (first|refine blk_drewN ?_ _|refine blk_drew ?_|refine blk_alloc ?_ _)); exact BK290.out⟩,⟨by (with_reducible repeat (first|refine blk_drewN ?_ _|refine blk_drew ?_|refine blk_alloc ?_ _)); refine blk_far ?_ NB301_320.out _; (with_reducible repeat (first|refine blk_drewN ?_ _|refine blk_drew ?_|refine blk_alloc ?_ _)); refine blk_far ?_ NB301_320.out _; (with_reducible repeat (first|refine blk_drewN ?_ _|refine blk_drew ?_|refine blk_alloc ?_ _)); refine blk_far ?_ NB301_320.out _; (with_reducible repeat (first|refine blk_drewN ?_ _|refine blk_drew ?_|refine blk_alloc ?_ _)); refine blk_far ?_ NB301_320.out _; (with_reducible repeat (first|refine blk_drewN ?_ _|refine blk_drew ?_|refine blk_alloc ?_ _)); refine blk_far ?_ NB301_320.out _; (with_reducible repeat (first|refine blk_drewN ?_ _|refine blk_drew ?_|refine blk_alloc ?_ _)); exact BK301.out⟩,⟨by (with_reducible repeat (first|refine blk_drewN ?_ _|refine blk_drew ?_|refine blk_alloc ?_ _)); refine blk_put (cs:=#[.int .i64 t310,.int .i64 t311,.string t312,.slice Ao58 t313.length co58,.slice none 0 0]) ?_ 4 _ rfl; (with_reducible repeat (first|refine blk_drewN ?_ _|refine blk_drew ?_|refine blk_alloc ?_ _)); refine blk_put (cs:=#[.int .i64 t310,.int .i64 t311,.string t312,.slice none 0 0,.slice none 0 0]) ?_ 3 _ rfl; (with_reducible repeat (first|refine blk_drewN ?_ _|refine blk_drew ?_|refine blk_alloc ?_ _)); refine blk_put (cs:=#[.int .i64 t310,.int .i64 t311,.string (⟨#[]⟩:ByteArray),.slice none 0 0,.slice none 0 0]) ?_ 2 _ rfl; (with_reducible repeat (first|refine blk_drewN ?_ _|refine blk_drew ?_|refine blk_alloc ?_ _)); refine blk_put (cs:=#[.int .i64 t310,.int .i64 0,.string (⟨#[]⟩:ByteArray),.slice none 0 0,.slice none 0 0]) ?_ 1 _ rfl; (with_reducible repeat (first|refine blk_drewN ?_ _|refine blk_drew ?_|refine blk_alloc ?_ _)); refine blk_put (cs:=#[.int .i64 0,.int .i64 0,.string (⟨#[]⟩:ByteArray),.slice none 0 0,.slice none 0 0]) ?_ 0 _ rfl; (with_reducible repeat (first|refine blk_drewN ?_ _|refine blk_drew ?_|refine blk_alloc ?_ _)); exact BK320.out⟩,⟨by repeat (first|(with_reducible first|exact HB.out|apply below_alloc|apply pw_below_drewN|apply below_drew1|refine below_set ?_ GE289.out|refine below_set ?_ GE290.out|refine below_set ?_ GE301.out|refine below_set ?_ GE320.out)|exact HB.out)⟩⟩
            ·rw [if_neg c60] at H
             have c60b0:(t310 == 2)=false:=beq_eq_false_iff_ne.mpr c60
             have c60b1:(t310 != 2)=true:=bne_iff_ne.mpr c60
             (first|rw [c60b0]|rw [c60b1]|(simp only [i64_w,i32_w]; rw [c60b0])|skip)
             have H':=Aside0.mk H
             clear H
             have hnb66:=NB320_289.out
             have hnc66:=NB289_320.out
             have hnb67:=NB320_290.out
             have hnc67:=NB290_320.out
             have hnb68:=NB320_301.out
             have hnc68:=NB301_320.out
             have hcz69_0:w53.cell? ⟨gb320,0,none⟩=some (.int .i64 0):=(blk_cell BK320.out 0).trans rfl
             have hcz69_1:w53.cell? ⟨gb320,1,none⟩=some (.int .i64 0):=(blk_cell BK320.out 1).trans rfl
             have hcz69_2:w53.cell? ⟨gb320,2,none⟩=some (.string (⟨#[]⟩:ByteArray)):=(blk_cell BK320.out 2).trans rfl
             have hcz69_3:w53.cell? ⟨gb320,3,none⟩=some (.slice none 0 0):=(blk_cell BK320.out 3).trans rfl
             have hcz69_4:w53.cell? ⟨gb320,4,none⟩=some (.slice none 0 0):=(blk_cell BK320.out 4).trans rfl
             have hfz69_0:=blk_frozen BK320.out 0
             have hfz69_1:=blk_frozen BK320.out 1
             have hfz69_2:=blk_frozen BK320.out 2
             have hfz69_3:=blk_frozen BK320.out 3
             have hfz69_4:=blk_frozen BK320.out 4
             go_wp2
             repeat (go_quiet (fail); try go_wp2)
             go_meet
             case rel=>exact ⟨_,(t311),(false),(by first|rfl|(simp; done)|(simp [*]; done)),(by first|rfl|(simp; done)|(simp [*]; done)),H',⟨by have:=HJ1.out; have:=HK2.out; first|omega|exact Nat.le_refl _⟩,⟨by (with_reducible repeat (first|apply Kd.R_alloc|apply Kd.R_drewN|apply Kd.R_drew)); exact Kd.R_mono (Kd.R_far (p:=⟨gb320,4,none⟩) (Kd.R_far (p:=⟨gb320,3,none⟩) (Kd.R_far (p:=⟨gb320,2,none⟩) (Kd.R_far (p:=⟨gb320,1,none⟩) (Kd.R_far (p:=⟨gb320,0,none⟩) (Kd.R_types HO_32.out BK320.out (by decide)) (fun _ hk=>hk.2) (.int .i64 t310)) (fun _ hk=>hk.2) (.int .i64 t311)) (fun _ hk=>hk.2) (.string t312)) (fun _ hk=>hk.2) (.slice Ao58 t313.length co58)) (fun _ hk=>hk.2) (.slice Ao59 t316.length co59)) (fun _ hk=>hk.1.2)⟩,⟨by (with_reducible repeat (first|apply Kd.R_alloc|apply Kd.R_drewN|apply Kd.R_drew)); exact Kd.R_mono (Kd.R_far (p:=⟨gb320,4,none⟩) (Kd.R_far (p:=⟨gb320,3,none⟩) (Kd.R_far (p:=⟨gb320,2,none⟩) (Kd.R_far (p:=⟨gb320,1,none⟩) (Kd.R_far (p:=⟨gb320,0,none⟩) (Kd.R_types HO315.out BK320.out (by decide)) (fun _ hk=>hk.2) (.int .i64 t310)) (fun _ hk=>hk.2) (.int .i64 t311)) (fun _ hk=>hk.2) (.string t312)) (fun _ hk=>hk.2) (.slice Ao58 t313.length co58)) (fun _ hk=>hk.2) (.slice Ao59 t316.length co59)) (fun _ hk=>hk.1.1.2)⟩,⟨by (with_reducible repeat (first|apply Kd.R_alloc|apply Kd.R_drewN|apply Kd.R_drew)); exact Kd.R_mono (Kd.R_far (p:=⟨gb320,4,none⟩) (Kd.R_far (p:=⟨gb320,3,none⟩) (Kd.R_far (p:=⟨gb320,2,none⟩) (Kd.R_far (p:=⟨gb320,1,none⟩) (Kd.R_far (p:=⟨gb320,0,none⟩) (Kd.R_mono HO318.out (fun k_ hk=>(⟨hk,hk.2⟩:_∧k_ ≠ gb320))) (fun _ hk=>hk.2) (.int .i64 t310)) (fun _ hk=>hk.2) (.int .i64 t311)) (fun _ hk=>hk.2) (.string t312)) (fun _ hk=>hk.2) (.slice Ao58 t313.length co58)) (fun _ hk=>hk.2) (.slice Ao59 t316.length co59)) (fun _ hk=>⟨hk.1.1.1.1.2,⟨hk.1.1.1.1.1,⟨hk.1.1.2,hk.1.2⟩⟩⟩)⟩,⟨by (with_reducible repeat (first|refine blk_drewN ?_ _|refine blk_drew ?_|refine blk_alloc ?_ _)); refine blk_far ?_ NB289_320.out _; (with_reducible repeat (first|refine blk_drewN ?_ _|refine blk_drew ?_|refine blk_alloc ?_ _)); refine blk_far ?_ NB289_320.out _; (with_reducible repeat (first|refine blk_drewN ?_ _|refine blk_drew ?_|refine blk_alloc ?_ _)); refine blk_far ?_ NB289_320.out _; (with_reducible repeat (first|refine blk_drewN ?_ _|refine blk_drew ?_|refine blk_alloc ?_ _)); refine blk_far ?_ NB289_320.out _; (with_reducible repeat (first|refine blk_drewN ?_ _|refine blk_drew ?_|refine blk_alloc ?_ _)); refine blk_far ?_ NB289_320.out _; (with_reducible repeat (first|refine blk_drewN ?_ _|refine blk_drew ?_|refine blk_alloc ?_ _)); exact BK289.out⟩,⟨by (with_reducible repeat (first|refine blk_drewN ?_ _|refine blk_drew ?_|refine blk_alloc ?_ _)); refine blk_far ?_ NB290_320.out _; (with_reducible repeat (first|refine blk_drewN ?_ _|refine blk_drew ?_|refine blk_alloc ?_ _)); refine blk_far ?_ NB290_320.out _; (with_reducible repeat (first|refine blk_drewN ?_ _|refine blk_drew ?_|refine blk_alloc ?_ _)); refine blk_far ?_ NB290_320.out _; (with_reducible repeat (first|refine blk_drewN ?_ _|refine blk_drew ?_|refine blk_alloc ?_ _)); refine blk_far ?_ NB290_320.out _; (with_reducible repeat (first|refine blk_drewN ?_ _|refine blk_drew ?_|refine blk_alloc ?_ _)); refine blk_far ?_ NB290_320.out _; (with_reducible repeat (first|refine blk_drewN ?_ _|refine blk_drew ?_|refine blk_alloc ?_ _)); exact BK290.out⟩,⟨by (with_reducible repeat (first|refine blk_drewN ?_ _|refine blk_drew ?_|refine blk_alloc ?_ _)); refine blk_far ?_ NB301_320.out _; (with_reducible repeat (first|refine blk_drewN ?_ _|refine blk_drew ?_|refine blk_alloc ?_ _)); refine blk_far ?_ NB301_320.out _; (with_reducible repeat (first|refine blk_drewN ?_ _|refine blk_drew ?_|refine blk_alloc ?_ _)); refine blk_far ?_ NB301_320.out _; (with_reducible repeat (first|refine blk_drewN ?_ _|refine blk_drew ?_|refine blk_alloc ?_ _)); refine blk_far ?_ NB301_320.out _; (with_reducible repeat (first|refine blk_drewN ?_ _|refine blk_drew ?_|refine blk_alloc ?_ _)); refine blk_far ?_ NB301_320.out _; (with_reducible repeat (first|refine blk_drewN ?_ _|refine blk_drew ?_|refine blk_alloc ?_ _)); exact BK301.out⟩,⟨by (with_reducible repeat (first|refine blk_drewN ?_ _|refine blk_drew ?_|refine blk_alloc ?_ _)); refine blk_put (cs:=#[.int .i64 t310,.int .i64 t311,.string t312,.slice Ao58 t313.length co58,.slice none 0 0]) ?_ 4 _ rfl; (with_reducible repeat (first|refine blk_drewN ?_ _|refine blk_drew ?_|refine blk_alloc ?_ _)); refine blk_put (cs:=#[.int .i64 t310,.int .i64 t311,.string t312,.slice none 0 0,.slice none 0 0]) ?_ 3 _ rfl; (with_reducible repeat (first|refine blk_drewN ?_ _|refine blk_drew ?_|refine blk_alloc ?_ _)); refine blk_put (cs:=#[.int .i64 t310,.int .i64 t311,.string (⟨#[]⟩:ByteArray),.slice none 0 0,.slice none 0 0]) ?_ 2 _ rfl; (with_reducible repeat (first|refine blk_drewN ?_ _|refine blk_drew ?_|refine blk_alloc ?_ _)); refine blk_put (cs:=#[.int .i64 t310,.int .i64 0,.string (⟨#[]⟩:ByteArray),.slice none 0 0,.slice none 0 0]) ?_ 1 _ rfl; (with_reducible repeat (first|refine blk_drewN ?_ _|refine blk_drew ?_|refine blk_alloc ?_ _)); refine blk_put (cs:=#[.int .i64 0,.int .i64 0,.string (⟨#[]⟩:ByteArray),.slice none 0 0,.slice none 0 0]) ?_ 0 _ rfl; (with_reducible repeat (first|refine blk_drewN ?_ _|refine blk_drew ?_|refine blk_alloc ?_ _)); exact BK320.out⟩,⟨by repeat (first|(with_reducible first|exact HB.out|apply below_alloc|apply pw_below_drewN|apply below_drew1|refine below_set ?_ GE289.out|refine below_set ?_ GE290.out|refine below_set ?_ GE301.out|refine below_set ?_ GE320.out)|exact HB.out)⟩⟩
           case rest =>
            clear HC48
            try clear c1
            try clear c2
            try clear p2
            try clear c3
            try clear p3
            try clear q3
            try clear hx3
            try clear c4
            try clear c5
            try clear c5b0
            try clear c5b1
            try clear c6
            try clear p6
            try clear c7
            try clear c8
            try clear c10
            try clear c12
            try clear c13
            try clear c17
            try clear c23
            try clear c24
            try clear c29
            try clear c30
            try clear p30
            try clear q30
            try clear hx30
            try clear c35
            try clear c35b0
            try clear c36
            try clear c36b0
            try clear c37
            try clear c37b0
            try clear c41
            try clear c42
            try clear c46
            try clear c49
            try clear c50
            try clear c54
            try clear c55
            try clear c56
            try clear c60
            try clear c60b0
            try clear c60b1
            try clear c62
            try clear c63
            try clear c64
            try clear p64
            try clear c66
            try clear c67
            try clear c68
            try clear hcz11_0
            try clear hcz11_1
            try clear hcz11_2
            try clear hcz11_3
            try clear hcz11_4
            try clear hcz14_0
            try clear hcz14_1
            try clear hcz14_2
            try clear hcz14_3
            try clear hcz18_0
            try clear hcz18_1
            try clear hcz18_2
            try clear hcz18_3
            try clear hcz18_4
            try clear hcz25_0
            try clear hcz25_1
            try clear hcz25_2
            try clear hcz25_3
            try clear hcz31_0
            try clear hcz31_1
            try clear hcz31_2
            try clear hcz31_3
            try clear hcz43_0
            try clear hcz43_1
            try clear hcz43_2
            try clear hcz43_3
            try clear hcz43_4
            try clear hcz51_0
            try clear hcz51_1
            try clear hcz51_2
            try clear hcz51_3
            try clear hcz51_4
            try clear hcz57_0
            try clear hcz57_1
            try clear hcz57_2
            try clear hcz57_3
            try clear hcz57_4
            try clear hcz65_0
            try clear hcz65_1
            try clear hcz65_2
            try clear hcz65_3
            try clear hcz65_4
            try clear hcz69_0
            try clear hcz69_1
            try clear hcz69_2
            try clear hcz69_3
            try clear hcz69_4
            try clear hcz8_0
            try clear hcz8_1
            try clear hcz8_2
            try clear hcz8_3
            try clear hcz8_4
            try clear hfz11_0
            try clear hfz11_1
            try clear hfz11_2
            try clear hfz11_3
            try clear hfz11_4
            try clear hfz14_0
            try clear hfz14_1
            try clear hfz14_2
            try clear hfz14_3
            try clear hfz18_0
            try clear hfz18_1
            try clear hfz18_2
            try clear hfz18_3
            try clear hfz18_4
            try clear hfz25_0
            try clear hfz25_1
            try clear hfz25_2
            try clear hfz25_3
            try clear hfz31_0
            try clear hfz31_1
            try clear hfz31_2
            try clear hfz31_3
            try clear hfz43_0
            try clear hfz43_1
            try clear hfz43_2
            try clear hfz43_3
            try clear hfz43_4
            try clear hfz51_0
            try clear hfz51_1
            try clear hfz51_2
            try clear hfz51_3
            try clear hfz51_4
            try clear hfz57_0
            try clear hfz57_1
            try clear hfz57_2
            try clear hfz57_3
            try clear hfz57_4
            try clear hfz65_0
            try clear hfz65_1
            try clear hfz65_2
            try clear hfz65_3
            try clear hfz65_4
            try clear hfz69_0
            try clear hfz69_1
            try clear hfz69_2
            try clear hfz69_3
            try clear hfz69_4
            try clear hfz8_0
            try clear hfz8_1
            try clear hfz8_2
            try clear hfz8_3
            try clear hfz8_4
            try clear hx305_0
            try clear p2
            try clear p305
            try clear q305
            obtain ⟨kq,x11_47,x12_47,rfl,rfl,HA,HJ47,HO_32,HO_321003,HO_321004,BK289,BK290,BK301,BK320,HB⟩:=hcut
            cases kq with
            |zero=>exact absurd HA.out (by simp [impl_PaceOf.j2])
            |succ kj47 =>
             have H:=HA.out
             clear HA
             simp only [impl_PaceOf.j2] at H
             have HC70:=Aside0.mk H
             clear H
             go_upto_region 13 with (fail)
             go_cut [64] (fun v64 wc=>∃ (kq:Nat) (x64_69:Bool),v64=.bool x64_69∧Aside0 (impl_PaceOf.j3 kq (rdOf ByteArray.empty y302 x34_2) x11_47 x12_47 y302 (y302.length:Int) x34_2 x64_69 a0_0 a0_1 a0_2 l0_3 l0_4 x302000_2 x302001_2 x302002_2 x302003_2 t310 t311 t312 t313 t316=some (r1,r2,r3,r4,r5))∧Aside0 (kq≤kj47)∧Aside0 (Kd.R Kd.string 9 wc w.heap.size (fun k_=>some k_ ≠ ((.slice Ao58 t313.length co58):Value).ownBlock) (.slice (some ad305) y302.length co34) y302)∧Aside0 (Kd.R Kd.string 9 wc w.heap.size (fun k_=>some k_ ≠ ((.slice (some ad305) y302.length co34):Value).ownBlock) (.slice Ao58 t313.length co58) t313)∧Aside0 (Kd.R k33 33 wc w.heap.size (fun k_=>some k_ ≠ ((.slice (some ad305) y302.length co34):Value).ownBlock∧some k_ ≠ ((.slice Ao58 t313.length co58):Value).ownBlock∧k_ ≠ gb289∧k_ ≠ gb320) (.slice Ao59 t316.length co59) t316)∧Aside0 (wc.heap[gb289]?=some (.cells #[.int .i64 a0_0,.int .i64 a0_1,.string a0_2,(.slice A0_3 l0_3.length c0_3),(.slice A0_4 l0_4.length c0_4)] 33 (0,0)))∧Aside0 (wc.heap[gb290]?=some (.cells #[.int .i64 x291000_2,.int .i64 x291001_2,.int .i64 x291002_2,.int .i64 x291003_2] 28 (0,0)))∧Aside0 (wc.heap[gb301]?=some (.cells #[.int .i64 x302000_2,.int .i64 x302001_2,.int .i64 x302002_2,.int .i64 x302003_2] 28 (0,0)))∧Aside0 (wc.heap[gb320]?=some (.cells #[.int .i64 t310,.int .i64 t311,.string t312,(.slice Ao58 t313.length co58),(.slice Ao59 t316.length co59)] 33 (0,0)))∧Aside0 (Below w.heap.size w wc))
             case first =>
              have H:=HC70.out
              clear HC70
              by_cases c71:(rdOf ByteArray.empty y302 x34_2).toList=([100,111,119,110,115,112,97,110]:List UInt8)
              ·rw [if_pos c71] at H
               have c71b0:((rdOf ByteArray.empty y302 x34_2).toList == ([100,111,119,110,115,112,97,110]:List UInt8))=true:=beq_iff_eq.mpr c71
               have c71b1:((rdOf ByteArray.empty y302 x34_2).toList != ([100,111,119,110,115,112,97,110]:List UInt8))=false:=bne_eq_false_iff_eq.mpr c71
               clear c71
               (first|rw [c71b0]|rw [c71b1]|(simp only [i64_w,i32_w]; rw [c71b0])|skip)
               have H':=Aside0.mk H
               clear H
               go_wp2
               go_meet
               case rel=>exact ⟨_,(true),(by first|rfl|(simp; done)|(simp [*]; done)),H',⟨by have:=HJ1.out; have:=HK2.out; have:=HJ47.out; first|omega|exact Nat.le_refl _⟩,⟨by (with_reducible repeat (first|apply Kd.R_alloc|apply Kd.R_drewN|apply Kd.R_drew)); exact HO_32.out⟩,⟨by (with_reducible repeat (first|apply Kd.R_alloc|apply Kd.R_drewN|apply Kd.R_drew)); exact HO_321003.out⟩,⟨by (with_reducible repeat (first|apply Kd.R_alloc|apply Kd.R_drewN|apply Kd.R_drew)); exact HO_321004.out⟩,⟨by (with_reducible repeat (first|refine blk_drewN ?_ _|refine blk_drew ?_|refine blk_alloc ?_ _)); exact BK289.out⟩,⟨by (with_reducible repeat (first|refine blk_drewN ?_ _|refine blk_drew ?_|refine blk_alloc ?_ _)); exact BK290.out⟩,⟨by (with_reducible repeat (first|refine blk_drewN ?_ _|refine blk_drew ?_|refine blk_alloc ?_ _)); exact BK301.out⟩,⟨by (with_reducible repeat (first|refine blk_drewN ?_ _|refine blk_drew ?_|refine blk_alloc ?_ _)); exact BK320.out⟩,⟨by repeat (first|(with_reducible first|exact HB.out|apply below_alloc|apply pw_below_drewN|apply below_drew1|refine below_set ?_ GE289.out|refine below_set ?_ GE290.out|refine below_set ?_ GE301.out|refine below_set ?_ GE320.out)|exact HB.out)⟩⟩
              ·rw [if_neg c71] at H
               have c71b0:((rdOf ByteArray.empty y302 x34_2).toList == ([100,111,119,110,115,112,97,110]:List UInt8))=false:=beq_eq_false_iff_ne.mpr c71
               have c71b1:((rdOf ByteArray.empty y302 x34_2).toList != ([100,111,119,110,115,112,97,110]:List UInt8))=true:=bne_iff_ne.mpr c71
               (first|rw [c71b0]|rw [c71b1]|(simp only [i64_w,i32_w]; rw [c71b0])|skip)
               have H':=Aside0.mk H
               clear H
               go_wp2
               go_meet
               case rel=>exact ⟨_,(((rdOf ByteArray.empty y302 x34_2).toList == ([117,112,115,112,97,110]:List UInt8))),(by first|rfl|(simp; done)|(simp [*]; done)),H',⟨by have:=HJ1.out; have:=HK2.out; have:=HJ47.out; first|omega|exact Nat.le_refl _⟩,⟨by (with_reducible repeat (first|apply Kd.R_alloc|apply Kd.R_drewN|apply Kd.R_drew)); exact HO_32.out⟩,⟨by (with_reducible repeat (first|apply Kd.R_alloc|apply Kd.R_drewN|apply Kd.R_drew)); exact HO_321003.out⟩,⟨by (with_reducible repeat (first|apply Kd.R_alloc|apply Kd.R_drewN|apply Kd.R_drew)); exact HO_321004.out⟩,⟨by (with_reducible repeat (first|refine blk_drewN ?_ _|refine blk_drew ?_|refine blk_alloc ?_ _)); exact BK289.out⟩,⟨by (with_reducible repeat (first|refine blk_drewN ?_ _|refine blk_drew ?_|refine blk_alloc ?_ _)); exact BK290.out⟩,⟨by (with_reducible repeat (first|refine blk_drewN ?_ _|refine blk_drew ?_|refine blk_alloc ?_ _)); exact BK301.out⟩,⟨by (with_reducible repeat (first|refine blk_drewN ?_ _|refine blk_drew ?_|refine blk_alloc ?_ _)); exact BK320.out⟩,⟨by repeat (first|(with_reducible first|exact HB.out|apply below_alloc|apply pw_below_drewN|apply below_drew1|refine below_set ?_ GE289.out|refine below_set ?_ GE290.out|refine below_set ?_ GE301.out|refine below_set ?_ GE320.out)|exact HB.out)⟩⟩
             case rest =>
              clear HC70
              try clear c1
              try clear c2
              try clear p2
              try clear c3
              try clear p3
              try clear q3
              try clear hx3
              try clear c4
              try clear c5
              try clear c5b0
              try clear c5b1
              try clear c6
              try clear p6
              try clear c7
              try clear c8
              try clear c10
              try clear c12
              try clear c13
              try clear c17
              try clear c23
              try clear c24
              try clear c29
              try clear c30
              try clear p30
              try clear q30
              try clear hx30
              try clear c35
              try clear c35b0
              try clear c36
              try clear c36b0
              try clear c37
              try clear c37b0
              try clear c41
              try clear c42
              try clear c46
              try clear c49
              try clear c50
              try clear c54
              try clear c55
              try clear c56
              try clear c60
              try clear c60b0
              try clear c60b1
              try clear c62
              try clear c63
              try clear c64
              try clear p64
              try clear c66
              try clear c67
              try clear c68
              try clear c71
              try clear c71b0
              try clear c71b1
              try clear hcz11_0
              try clear hcz11_1
              try clear hcz11_2
              try clear hcz11_3
              try clear hcz11_4
              try clear hcz14_0
              try clear hcz14_1
              try clear hcz14_2
              try clear hcz14_3
              try clear hcz18_0
              try clear hcz18_1
              try clear hcz18_2
              try clear hcz18_3
              try clear hcz18_4
              try clear hcz25_0
              try clear hcz25_1
              try clear hcz25_2
              try clear hcz25_3
              try clear hcz31_0
              try clear hcz31_1
              try clear hcz31_2
              try clear hcz31_3
              try clear hcz43_0
              try clear hcz43_1
              try clear hcz43_2
              try clear hcz43_3
              try clear hcz43_4
              try clear hcz51_0
              try clear hcz51_1
              try clear hcz51_2
              try clear hcz51_3
              try clear hcz51_4
              try clear hcz57_0
              try clear hcz57_1
              try clear hcz57_2
              try clear hcz57_3
              try clear hcz57_4
              try clear hcz65_0
              try clear hcz65_1
              try clear hcz65_2
              try clear hcz65_3
              try clear hcz65_4
              try clear hcz69_0
              try clear hcz69_1
              try clear hcz69_2
              try clear hcz69_3
              try clear hcz69_4
              try clear hcz8_0
              try clear hcz8_1
              try clear hcz8_2
              try clear hcz8_3
              try clear hcz8_4
              try clear hfz11_0
              try clear hfz11_1
              try clear hfz11_2
              try clear hfz11_3
              try clear hfz11_4
              try clear hfz14_0
              try clear hfz14_1
              try clear hfz14_2
              try clear hfz14_3
              try clear hfz18_0
              try clear hfz18_1
              try clear hfz18_2
              try clear hfz18_3
              try clear hfz18_4
              try clear hfz25_0
              try clear hfz25_1
              try clear hfz25_2
              try clear hfz25_3
              try clear hfz31_0
              try clear hfz31_1
              try clear hfz31_2
              try clear hfz31_3
              try clear hfz43_0
              try clear hfz43_1
              try clear hfz43_2
              try clear hfz43_3
              try clear hfz43_4
              try clear hfz51_0
              try clear hfz51_1
              try clear hfz51_2
              try clear hfz51_3
              try clear hfz51_4
              try clear hfz57_0
              try clear hfz57_1
              try clear hfz57_2
              try clear hfz57_3
              try clear hfz57_4
              try clear hfz65_0
              try clear hfz65_1
              try clear hfz65_2
              try clear hfz65_3
              try clear hfz65_4
              try clear hfz69_0
              try clear hfz69_1
              try clear hfz69_2
              try clear hfz69_3
              try clear hfz69_4
              try clear hfz8_0
              try clear hfz8_1
              try clear hfz8_2
              try clear hfz8_3
              try clear hfz8_4
              try clear hx305_0
              try clear p2
              try clear p3
              try clear p30
              try clear p305
              try clear p6
              try clear p64
              try clear q3
              try clear q30
              try clear q305
              obtain ⟨kq,x64_69,rfl,HA,HJ69,HO_32,HO_321003,HO_321004,BK289,BK290,BK301,BK320,HB⟩:=hcut
              cases kq with
              |zero=>exact absurd HA.out (by simp [impl_PaceOf.j3])
              |succ kj69 =>
               have H:=HA.out
               clear HA
               simp only [impl_PaceOf.j3] at H
               have HC72:=Aside0.mk H
               clear H
               go_upto_if 64 with (fail)
               go_cut [11,12] (fun v11 v12 wc=>∃ (kq:Nat) (x11_71:Int) (x12_71:Bool),v11=.int .i64 x11_71∧v12=.bool x12_71∧Aside0 (impl_PaceOf.j4 kq (rdOf ByteArray.empty y302 x34_2) x11_71 x12_71 y302 (y302.length:Int) x34_2 a0_0 a0_1 a0_2 l0_3 l0_4 x302000_2 x302001_2 x302002_2 x302003_2=some (r1,r2,r3,r4,r5))∧Aside0 (kq≤kj69)∧Aside0 (Kd.R Kd.string 9 wc w.heap.size (fun k_=>some k_ ≠ ((.slice Ao58 t313.length co58):Value).ownBlock) (.slice (some ad305) y302.length co34) y302)∧Aside0 (Kd.R Kd.string 9 wc w.heap.size (fun k_=>some k_ ≠ ((.slice (some ad305) y302.length co34):Value).ownBlock) (.slice Ao58 t313.length co58) t313)∧Aside0 (Kd.R k33 33 wc w.heap.size (fun k_=>some k_ ≠ ((.slice (some ad305) y302.length co34):Value).ownBlock∧some k_ ≠ ((.slice Ao58 t313.length co58):Value).ownBlock∧k_ ≠ gb289∧k_ ≠ gb320) (.slice Ao59 t316.length co59) t316)∧Aside0 (wc.heap[gb289]?=some (.cells #[.int .i64 a0_0,.int .i64 a0_1,.string a0_2,(.slice A0_3 l0_3.length c0_3),(.slice A0_4 l0_4.length c0_4)] 33 (0,0)))∧Aside0 (wc.heap[gb290]?=some (.cells #[.int .i64 x291000_2,.int .i64 x291001_2,.int .i64 x291002_2,.int .i64 x291003_2] 28 (0,0)))∧Aside0 (wc.heap[gb301]?=some (.cells #[.int .i64 x302000_2,.int .i64 x302001_2,.int .i64 x302002_2,.int .i64 x302003_2] 28 (0,0)))∧Aside0 (wc.heap[gb320]?=some (.cells #[.int .i64 t310,.int .i64 t311,.string t312,(.slice Ao58 t313.length co58),(.slice Ao59 t316.length co59)] 33 (0,0)))∧Aside0 (Below w.heap.size w wc))
               case first =>
                have H:=HC72.out
                clear HC72
                by_cases c73:x64_69=true
                ·subst c73
                 have H1:((impl_SpanOf.f kj69 t312).bind fun bt322=>(if bt322.2=true then (if t310=3 then (impl_PaceOf.j4 kj69 (rdOf ByteArray.empty y302 x34_2) bt322.1 (decide (bt322.1≤3600)) y302 (y302.length:Int) x34_2 a0_0 a0_1 a0_2 l0_3 l0_4 x302000_2 x302001_2 x302002_2 x302003_2) else (impl_PaceOf.j4 kj69 (rdOf ByteArray.empty y302 x34_2) bt322.1 false y302 (y302.length:Int) x34_2 a0_0 a0_1 a0_2 l0_3 l0_4 x302000_2 x302001_2 x302002_2 x302003_2)) else (impl_PaceOf.j4 kj69 (rdOf ByteArray.empty y302 x34_2) bt322.1 false y302 (y302.length:Int) x34_2 a0_0 a0_1 a0_2 l0_3 l0_4 x302000_2 x302001_2 x302002_2 x302003_2)))=some (r1,r2,r3,r4,r5):=by rw [if_pos rfl] at H; exact H
                 clear H
                 have H:=H1
                 clear H1
                 replace H:=Option.bind_eq_some_iff.mp H
                 obtain ⟨⟨t322,t323⟩,A740,H⟩:=H
                 replace H:(if t323=true then (if t310=3 then (impl_PaceOf.j4 kj69 (rdOf ByteArray.empty y302 x34_2) t322 (decide (t322≤3600)) y302 (y302.length:Int) x34_2 a0_0 a0_1 a0_2 l0_3 l0_4 x302000_2 x302001_2 x302002_2 x302003_2) else (impl_PaceOf.j4 kj69 (rdOf ByteArray.empty y302 x34_2) t322 false y302 (y302.length:Int) x34_2 a0_0 a0_1 a0_2 l0_3 l0_4 x302000_2 x302001_2 x302002_2 x302003_2)) else (impl_PaceOf.j4 kj69 (rdOf ByteArray.empty y302 x34_2) t322 false y302 (y302.length:Int) x34_2 a0_0 a0_1 a0_2 l0_3 l0_4 x302000_2 x302001_2 x302002_2 x302003_2))=some (r1,r2,r3,r4,r5):=H
                 have A74:=Aside0.mk A740
                 clear A740
                 by_cases c75:t323=true
                 ·subst c75
                  have H1:(if t310=3 then (impl_PaceOf.j4 kj69 (rdOf ByteArray.empty y302 x34_2) t322 (decide (t322≤3600)) y302 (y302.length:Int) x34_2 a0_0 a0_1 a0_2 l0_3 l0_4 x302000_2 x302001_2 x302002_2 x302003_2) else (impl_PaceOf.j4 kj69 (rdOf ByteArray.empty y302 x34_2) t322 false y302 (y302.length:Int) x34_2 a0_0 a0_1 a0_2 l0_3 l0_4 x302000_2 x302001_2 x302002_2 x302003_2))=some (r1,r2,r3,r4,r5):=by rw [if_pos rfl] at H; exact H
                  clear H
                  have H:=H1
                  clear H1
                  by_cases c76:t310=3
                  ·rw [if_pos c76] at H
                   have c76b0:(t310 == 3)=true:=beq_iff_eq.mpr c76
                   have c76b1:(t310 != 3)=false:=bne_eq_false_iff_eq.mpr c76
                   clear c76
                   (first|rw [c76b0]|rw [c76b1]|(simp only [i64_w,i32_w]; rw [c76b0])|skip)
                   have H':=Aside0.mk H
                   clear H
                   have hnb77:=NB320_289.out
                   have hnc77:=NB289_320.out
                   have hnb78:=NB320_290.out
                   have hnc78:=NB290_320.out
                   have hnb79:=NB320_301.out
                   have hnc79:=NB301_320.out
                   have hcz80_0:wc.cell? ⟨gb320,0,none⟩=some (.int .i64 t310):=(blk_cell BK320.out 0).trans rfl
                   have hcz80_1:wc.cell? ⟨gb320,1,none⟩=some (.int .i64 t311):=(blk_cell BK320.out 1).trans rfl
                   have hcz80_2:wc.cell? ⟨gb320,2,none⟩=some (.string t312):=(blk_cell BK320.out 2).trans rfl
                   have hcz80_3:wc.cell? ⟨gb320,3,none⟩=some (.slice Ao58 t313.length co58):=(blk_cell BK320.out 3).trans rfl
                   have hcz80_4:wc.cell? ⟨gb320,4,none⟩=some (.slice Ao59 t316.length co59):=(blk_cell BK320.out 4).trans rfl
                   have hfz80_0:=blk_frozen BK320.out 0
                   have hfz80_1:=blk_frozen BK320.out 1
                   have hfz80_2:=blk_frozen BK320.out 2
                   have hfz80_3:=blk_frozen BK320.out 3
                   have hfz80_4:=blk_frozen BK320.out 4
                   go_wp2_with (first|(go_at_call 32; (with_reducible refine (impl_SpanOf.calls kj69 t312 t322 true _ A74.out).mono ?_); rintro e w' ⟨rfl,⟨nd,rfl⟩⟩; (try first|exact ⟨rfl,_,World.drewN_drewN _ _ _⟩|exact ⟨rfl,_,Eq.trans (World.drewN_drewN _ _ _) (congrArg (World.drewN _) (Nat.add_assoc _ _ _))⟩)))
                   go_meet
                   case rel=>exact ⟨_,(t322),(decide (t322≤3600)),(by first|rfl|(simp; done)|(simp [*]; done)),(by first|rfl|(simp; done)|(simp [*]; done)),H',⟨by have:=HJ1.out; have:=HK2.out; have:=HJ47.out; have:=HJ69.out; first|omega|exact Nat.le_refl _⟩,⟨by (with_reducible repeat (first|apply Kd.R_alloc|apply Kd.R_drewN|apply Kd.R_drew)); exact HO_32.out⟩,⟨by (with_reducible repeat (first|apply Kd.R_alloc|apply Kd.R_drewN|apply Kd.R_drew)); exact HO_321003.out⟩,⟨by (with_reducible repeat (first|apply Kd.R_alloc|apply Kd.R_drewN|apply Kd.R_drew)); exact HO_321004.out⟩,⟨by (with_reducible repeat (first|refine blk_drewN ?_ _|refine blk_drew ?_|refine blk_alloc ?_ _)); exact BK289.out⟩,⟨by (with_reducible repeat (first|refine blk_drewN ?_ _|refine blk_drew ?_|refine blk_alloc ?_ _)); exact BK290.out⟩,⟨by (with_reducible repeat (first|refine blk_drewN ?_ _|refine blk_drew ?_|refine blk_alloc ?_ _)); exact BK301.out⟩,⟨by (with_reducible repeat (first|refine blk_drewN ?_ _|refine blk_drew ?_|refine blk_alloc ?_ _)); exact BK320.out⟩,⟨by repeat (first|(with_reducible first|exact HB.out|apply below_alloc|apply pw_below_drewN|apply below_drew1|refine below_set ?_ GE289.out|refine below_set ?_ GE290.out|refine below_set ?_ GE301.out|refine below_set ?_ GE320.out)|exact HB.out)⟩⟩
                  ·rw [if_neg c76] at H
                   have c76b0:(t310 == 3)=false:=beq_eq_false_iff_ne.mpr c76
                   have c76b1:(t310 != 3)=true:=bne_iff_ne.mpr c76
                   (first|rw [c76b0]|rw [c76b1]|(simp only [i64_w,i32_w]; rw [c76b0])|skip)
                   have H':=Aside0.mk H
                   clear H
                   have hnb81:=NB320_289.out
                   have hnc81:=NB289_320.out
                   have hnb82:=NB320_290.out
                   have hnc82:=NB290_320.out
                   have hnb83:=NB320_301.out
                   have hnc83:=NB301_320.out
                   have hcz84_0:wc.cell? ⟨gb320,0,none⟩=some (.int .i64 t310):=(blk_cell BK320.out 0).trans rfl
                   have hcz84_1:wc.cell? ⟨gb320,1,none⟩=some (.int .i64 t311):=(blk_cell BK320.out 1).trans rfl
                   have hcz84_2:wc.cell? ⟨gb320,2,none⟩=some (.string t312):=(blk_cell BK320.out 2).trans rfl
                   have hcz84_3:wc.cell? ⟨gb320,3,none⟩=some (.slice Ao58 t313.length co58):=(blk_cell BK320.out 3).trans rfl
                   have hcz84_4:wc.cell? ⟨gb320,4,none⟩=some (.slice Ao59 t316.length co59):=(blk_cell BK320.out 4).trans rfl
                   have hfz84_0:=blk_frozen BK320.out 0
                   have hfz84_1:=blk_frozen BK320.out 1
                   have hfz84_2:=blk_frozen BK320.out 2
                   have hfz84_3:=blk_frozen BK320.out 3
                   have hfz84_4:=blk_frozen BK320.out 4
                   go_wp2_with (first|(go_at_call 32; (with_reducible refine (impl_SpanOf.calls kj69 t312 t322 true _ A74.out).mono ?_); rintro e w' ⟨rfl,⟨nd,rfl⟩⟩; (try first|exact ⟨rfl,_,World.drewN_drewN _ _ _⟩|exact ⟨rfl,_,Eq.trans (World.drewN_drewN _ _ _) (congrArg (World.drewN _) (Nat.add_assoc _ _ _))⟩)))
                   go_meet
                   case rel=>exact ⟨_,(t322),(false),(by first|rfl|(simp; done)|(simp [*]; done)),(by first|rfl|(simp; done)|(simp [*]; done)),H',⟨by have:=HJ1.out; have:=HK2.out; have:=HJ47.out; have:=HJ69.out; first|omega|exact Nat.le_refl _⟩,⟨by (with_reducible repeat (first|apply Kd.R_alloc|apply Kd.R_drewN|apply Kd.R_drew)); exact HO_32.out⟩,⟨by (with_reducible repeat (first|apply Kd.R_alloc|apply Kd.R_drewN|apply Kd.R_drew)); exact HO_321003.out⟩,⟨by (with_reducible repeat (first|apply Kd.R_alloc|apply Kd.R_drewN|apply Kd.R_drew)); exact HO_321004.out⟩,⟨by (with_reducible repeat (first|refine blk_drewN ?_ _|refine blk_drew ?_|refine blk_alloc ?_ _)); exact BK289.out⟩,⟨by (with_reducible repeat (first|refine blk_drewN ?_ _|refine blk_drew ?_|refine blk_alloc ?_ _)); exact BK290.out⟩,⟨by (with_reducible repeat (first|refine blk_drewN ?_ _|refine blk_drew ?_|refine blk_alloc ?_ _)); exact BK301.out⟩,⟨by (with_reducible repeat (first|refine blk_drewN ?_ _|refine blk_drew ?_|refine blk_alloc ?_ _)); exact BK320.out⟩,⟨by repeat (first|(with_reducible first|exact HB.out|apply below_alloc|apply pw_below_drewN|apply below_drew1|refine below_set ?_ GE289.out|refine below_set ?_ GE290.out|refine below_set ?_ GE301.out|refine below_set ?_ GE320.out)|exact HB.out)⟩⟩
                 ·replace c75:=Bool.eq_false_iff.mpr c75
                  subst c75
                  have H1:(impl_PaceOf.j4 kj69 (rdOf ByteArray.empty y302 x34_2) t322 false y302 (y302.length:Int) x34_2 a0_0 a0_1 a0_2 l0_3 l0_4 x302000_2 x302001_2 x302002_2 x302003_2)=some (r1,r2,r3,r4,r5):=by rw [if_neg (show ¬ (false=true) by decide)] at H; exact H
                  clear H
                  have H:=H1
                  clear H1
                  have H':=Aside0.mk H
                  clear H
                  have hnb85:=NB320_289.out
                  have hnc85:=NB289_320.out
                  have hnb86:=NB320_290.out
                  have hnc86:=NB290_320.out
                  have hnb87:=NB320_301.out
                  have hnc87:=NB301_320.out
                  have hcz88_0:wc.cell? ⟨gb320,0,none⟩=some (.int .i64 t310):=(blk_cell BK320.out 0).trans rfl
                  have hcz88_1:wc.cell? ⟨gb320,1,none⟩=some (.int .i64 t311):=(blk_cell BK320.out 1).trans rfl
                  have hcz88_2:wc.cell? ⟨gb320,2,none⟩=some (.string t312):=(blk_cell BK320.out 2).trans rfl
                  have hcz88_3:wc.cell? ⟨gb320,3,none⟩=some (.slice Ao58 t313.length co58):=(blk_cell BK320.out 3).trans rfl
                  have hcz88_4:wc.cell? ⟨gb320,4,none⟩=some (.slice Ao59 t316.length co59):=(blk_cell BK320.out 4).trans rfl
                  have hfz88_0:=blk_frozen BK320.out 0
                  have hfz88_1:=blk_frozen BK320.out 1
                  have hfz88_2:=blk_frozen BK320.out 2
                  have hfz88_3:=blk_frozen BK320.out 3
                  have hfz88_4:=blk_frozen BK320.out 4
                  go_wp2_with (first|(go_at_call 32; (with_reducible refine (impl_SpanOf.calls kj69 t312 t322 false _ A74.out).mono ?_); rintro e w' ⟨rfl,⟨nd,rfl⟩⟩; (try first|exact ⟨rfl,_,World.drewN_drewN _ _ _⟩|exact ⟨rfl,_,Eq.trans (World.drewN_drewN _ _ _) (congrArg (World.drewN _) (Nat.add_assoc _ _ _))⟩)))
                  go_meet
                  case rel=>exact ⟨_,(t322),(false),(by first|rfl|(simp; done)|(simp [*]; done)),(by first|rfl|(simp; done)|(simp [*]; done)),H',⟨by have:=HJ1.out; have:=HK2.out; have:=HJ47.out; have:=HJ69.out; first|omega|exact Nat.le_refl _⟩,⟨by (with_reducible repeat (first|apply Kd.R_alloc|apply Kd.R_drewN|apply Kd.R_drew)); exact HO_32.out⟩,⟨by (with_reducible repeat (first|apply Kd.R_alloc|apply Kd.R_drewN|apply Kd.R_drew)); exact HO_321003.out⟩,⟨by (with_reducible repeat (first|apply Kd.R_alloc|apply Kd.R_drewN|apply Kd.R_drew)); exact HO_321004.out⟩,⟨by (with_reducible repeat (first|refine blk_drewN ?_ _|refine blk_drew ?_|refine blk_alloc ?_ _)); exact BK289.out⟩,⟨by (with_reducible repeat (first|refine blk_drewN ?_ _|refine blk_drew ?_|refine blk_alloc ?_ _)); exact BK290.out⟩,⟨by (with_reducible repeat (first|refine blk_drewN ?_ _|refine blk_drew ?_|refine blk_alloc ?_ _)); exact BK301.out⟩,⟨by (with_reducible repeat (first|refine blk_drewN ?_ _|refine blk_drew ?_|refine blk_alloc ?_ _)); exact BK320.out⟩,⟨by repeat (first|(with_reducible first|exact HB.out|apply below_alloc|apply pw_below_drewN|apply below_drew1|refine below_set ?_ GE289.out|refine below_set ?_ GE290.out|refine below_set ?_ GE301.out|refine below_set ?_ GE320.out)|exact HB.out)⟩⟩
                ·replace c73:=Bool.eq_false_iff.mpr c73
                 subst c73
                 have H1:(impl_PaceOf.j4 kj69 (rdOf ByteArray.empty y302 x34_2) x11_47 x12_47 y302 (y302.length:Int) x34_2 a0_0 a0_1 a0_2 l0_3 l0_4 x302000_2 x302001_2 x302002_2 x302003_2)=some (r1,r2,r3,r4,r5):=by rw [if_neg (show ¬ (false=true) by decide)] at H; exact H
                 clear H
                 have H:=H1
                 clear H1
                 have H':=Aside0.mk H
                 clear H
                 go_wp2
                 go_meet
                 case rel=>exact ⟨_,(x11_47),(x12_47),(by first|rfl|(simp; done)|(simp [*]; done)),(by first|rfl|(simp; done)|(simp [*]; done)),H',⟨by have:=HJ1.out; have:=HK2.out; have:=HJ47.out; have:=HJ69.out; first|omega|exact Nat.le_refl _⟩,⟨by (with_reducible repeat (first|apply Kd.R_alloc|apply Kd.R_drewN|apply Kd.R_drew)); exact HO_32.out⟩,⟨by (with_reducible repeat (first|apply Kd.R_alloc|apply Kd.R_drewN|apply Kd.R_drew)); exact HO_321003.out⟩,⟨by (with_reducible repeat (first|apply Kd.R_alloc|apply Kd.R_drewN|apply Kd.R_drew)); exact HO_321004.out⟩,⟨by (with_reducible repeat (first|refine blk_drewN ?_ _|refine blk_drew ?_|refine blk_alloc ?_ _)); exact BK289.out⟩,⟨by (with_reducible repeat (first|refine blk_drewN ?_ _|refine blk_drew ?_|refine blk_alloc ?_ _)); exact BK290.out⟩,⟨by (with_reducible repeat (first|refine blk_drewN ?_ _|refine blk_drew ?_|refine blk_alloc ?_ _)); exact BK301.out⟩,⟨by (with_reducible repeat (first|refine blk_drewN ?_ _|refine blk_drew ?_|refine blk_alloc ?_ _)); exact BK320.out⟩,⟨by repeat (first|(with_reducible first|exact HB.out|apply below_alloc|apply pw_below_drewN|apply below_drew1|refine below_set ?_ GE289.out|refine below_set ?_ GE290.out|refine below_set ?_ GE301.out|refine below_set ?_ GE320.out)|exact HB.out)⟩⟩
               case rest =>
                clear HC72
                try clear c1
                try clear c2
                try clear p2
                try clear c3
                try clear p3
                try clear q3
                try clear hx3
                try clear c4
                try clear c5
                try clear c5b0
                try clear c5b1
                try clear c6
                try clear p6
                try clear c7
                try clear c8
                try clear c10
                try clear c12
                try clear c13
                try clear c17
                try clear c23
                try clear c24
                try clear c29
                try clear c30
                try clear p30
                try clear q30
                try clear hx30
                try clear c35
                try clear c35b0
                try clear c36
                try clear c36b0
                try clear c37
                try clear c37b0
                try clear c41
                try clear c42
                try clear c46
                try clear c49
                try clear c50
                try clear c54
                try clear c55
                try clear c56
                try clear c60
                try clear c60b0
                try clear c60b1
                try clear c62
                try clear c63
                try clear c64
                try clear p64
                try clear c66
                try clear c67
                try clear c68
                try clear c71
                try clear c71b0
                try clear c71b1
                try clear c73
                try clear c75
                try clear c76
                try clear c76b0
                try clear c76b1
                try clear c77
                try clear c78
                try clear c79
                try clear c81
                try clear c82
                try clear c83
                try clear c85
                try clear c86
                try clear c87
                try clear hcz11_0
                try clear hcz11_1
                try clear hcz11_2
                try clear hcz11_3
                try clear hcz11_4
                try clear hcz14_0
                try clear hcz14_1
                try clear hcz14_2
                try clear hcz14_3
                try clear hcz18_0
                try clear hcz18_1
                try clear hcz18_2
                try clear hcz18_3
                try clear hcz18_4
                try clear hcz25_0
                try clear hcz25_1
                try clear hcz25_2
                try clear hcz25_3
                try clear hcz31_0
                try clear hcz31_1
                try clear hcz31_2
                try clear hcz31_3
                try clear hcz43_0
                try clear hcz43_1
                try clear hcz43_2
                try clear hcz43_3
                try clear hcz43_4
                try clear hcz51_0
                try clear hcz51_1
                try clear hcz51_2
                try clear hcz51_3
                try clear hcz51_4
                try clear hcz57_0
                try clear hcz57_1
                try clear hcz57_2
                try clear hcz57_3
                try clear hcz57_4
                try clear hcz65_0
                try clear hcz65_1
                try clear hcz65_2
                try clear hcz65_3
                try clear hcz65_4
                try clear hcz69_0
                try clear hcz69_1
                try clear hcz69_2
                try clear hcz69_3
                try clear hcz69_4
                try clear hcz80_0
                try clear hcz80_1
                try clear hcz80_2
                try clear hcz80_3
                try clear hcz80_4
                try clear hcz84_0
                try clear hcz84_1
                try clear hcz84_2
                try clear hcz84_3
                try clear hcz84_4
                try clear hcz88_0
                try clear hcz88_1
                try clear hcz88_2
                try clear hcz88_3
                try clear hcz88_4
                try clear hcz8_0
                try clear hcz8_1
                try clear hcz8_2
                try clear hcz8_3
                try clear hcz8_4
                try clear hfz11_0
                try clear hfz11_1
                try clear hfz11_2
                try clear hfz11_3
                try clear hfz11_4
                try clear hfz14_0
                try clear hfz14_1
                try clear hfz14_2
                try clear hfz14_3
                try clear hfz18_0
                try clear hfz18_1
                try clear hfz18_2
                try clear hfz18_3
                try clear hfz18_4
                try clear hfz25_0
                try clear hfz25_1
                try clear hfz25_2
                try clear hfz25_3
                try clear hfz31_0
                try clear hfz31_1
                try clear hfz31_2
                try clear hfz31_3
                try clear hfz43_0
                try clear hfz43_1
                try clear hfz43_2
                try clear hfz43_3
                try clear hfz43_4
                try clear hfz51_0
                try clear hfz51_1
                try clear hfz51_2
                try clear hfz51_3
                try clear hfz51_4
                try clear hfz57_0
                try clear hfz57_1
                try clear hfz57_2
                try clear hfz57_3
                try clear hfz57_4
                try clear hfz65_0
                try clear hfz65_1
                try clear hfz65_2
                try clear hfz65_3
                try clear hfz65_4
                try clear hfz69_0
                try clear hfz69_1
                try clear hfz69_2
                try clear hfz69_3
                try clear hfz69_4
                try clear hfz80_0
                try clear hfz80_1
                try clear hfz80_2
                try clear hfz80_3
                try clear hfz80_4
                try clear hfz84_0
                try clear hfz84_1
                try clear hfz84_2
                try clear hfz84_3
                try clear hfz84_4
                try clear hfz88_0
                try clear hfz88_1
                try clear hfz88_2
                try clear hfz88_3
                try clear hfz88_4
                try clear hfz8_0
                try clear hfz8_1
                try clear hfz8_2
                try clear hfz8_3
                try clear hfz8_4
                try clear hx305_0
                try clear p2
                try clear p3
                try clear p30
                try clear p305
                try clear p6
                try clear p64
                try clear q3
                try clear q30
                try clear q305
                obtain ⟨kq,x11_71,x12_71,rfl,rfl,HA,HJ71,HO_32,HO_321003,HO_321004,BK289,BK290,BK301,BK320,HB⟩:=hcut
                cases kq with
                |zero=>exact absurd HA.out (by simp [impl_PaceOf.j4])
                |succ kj71 =>
                 have H:=HA.out
                 clear HA
                 simp only [impl_PaceOf.j4] at H
                 by_cases c89:x12_71=true
                 ·subst c89
                  have H1:(if (rdOf ByteArray.empty y302 x34_2).toList=([100,111,119,110]:List UInt8) then (impl_PaceOf.l0 kj71 y302 (y302.length:Int) (wrap64 (x34_2+1)) a0_0 a0_1 a0_2 l0_3 l0_4 x302000_2 x11_71 x302002_2 x302003_2) else (if (rdOf ByteArray.empty y302 x34_2).toList=([100,111,119,110,115,112,97,110]:List UInt8) then (impl_PaceOf.l0 kj71 y302 (y302.length:Int) (wrap64 (x34_2+1)) a0_0 a0_1 a0_2 l0_3 l0_4 x302000_2 x302001_2 x302002_2 x11_71) else (if (rdOf ByteArray.empty y302 x34_2).toList=([117,112]:List UInt8) then (impl_PaceOf.l0 kj71 y302 (y302.length:Int) (wrap64 (x34_2+1)) a0_0 a0_1 a0_2 l0_3 l0_4 x11_71 x302001_2 x302002_2 x302003_2) else (impl_PaceOf.l0 kj71 y302 (y302.length:Int) (wrap64 (x34_2+1)) a0_0 a0_1 a0_2 l0_3 l0_4 x302000_2 x302001_2 x11_71 x302003_2))))=some (r1,r2,r3,r4,r5):=by rw [if_pos rfl] at H; exact H
                  clear H
                  have H:=H1
                  clear H1
                  by_cases c90:(rdOf ByteArray.empty y302 x34_2).toList=([100,111,119,110]:List UInt8)
                  ·rw [if_pos c90] at H
                   have c90b0:((rdOf ByteArray.empty y302 x34_2).toList == ([100,111,119,110]:List UInt8))=true:=beq_iff_eq.mpr c90
                   have c90b1:((rdOf ByteArray.empty y302 x34_2).toList != ([100,111,119,110]:List UInt8))=false:=bne_eq_false_iff_eq.mpr c90
                   clear c90
                   have H':=Aside0.mk H
                   clear H
                   have hnb91:=NB301_289.out
                   have hnc91:=NB289_301.out
                   have hnb92:=NB301_290.out
                   have hnc92:=NB290_301.out
                   have hnb93:=NB301_320.out
                   have hnc93:=NB320_301.out
                   have hcz94_0:wc.cell? ⟨gb301,0,none⟩=some (.int .i64 x302000_2):=(blk_cell BK301.out 0).trans rfl
                   have hcz94_1:wc.cell? ⟨gb301,1,none⟩=some (.int .i64 x302001_2):=(blk_cell BK301.out 1).trans rfl
                   have hcz94_2:wc.cell? ⟨gb301,2,none⟩=some (.int .i64 x302002_2):=(blk_cell BK301.out 2).trans rfl
                   have hcz94_3:wc.cell? ⟨gb301,3,none⟩=some (.int .i64 x302003_2):=(blk_cell BK301.out 3).trans rfl
                   have hfz94_0:=blk_frozen BK301.out 0
                   have hfz94_1:=blk_frozen BK301.out 1
                   have hfz94_2:=blk_frozen BK301.out 2
                   have hfz94_3:=blk_frozen BK301.out 3
                   go_wp2
                   go_roundg kj71
                   case measure=>have:=HJ1.out; have:=HK2.out; have:=HJ47.out; have:=HJ69.out; have:=HJ71.out; omega
                   case rel=>exact ⟨(wrap64 (x34_2+1)),(x291000_2),(x291001_2),(x291002_2),(x291003_2),(x302000_2),(x11_71),(x302002_2),(x302003_2),(by first|rfl|(simp; done)|(simp [*]; done)),H',⟨by have:=HJ1.out; have:=HK2.out; have:=HJ47.out; have:=HJ69.out; have:=HJ71.out; omega⟩,⟨by (with_reducible repeat (first|apply Kd.R_alloc|apply Kd.R_drewN|apply Kd.R_drew)); exact Kd.R_mono (Kd.R_far (p:=⟨gb301,1,none⟩) (Kd.R_types HO_32.out BK301.out (by decide)) (fun _ hk=>hk.2) (.int .i64 x11_71)) (fun _ hk=>trivial)⟩,⟨by (with_reducible repeat (first|refine blk_drewN ?_ _|refine blk_drew ?_|refine blk_alloc ?_ _)); refine blk_far ?_ NB289_301.out _; (with_reducible repeat (first|refine blk_drewN ?_ _|refine blk_drew ?_|refine blk_alloc ?_ _)); exact BK289.out⟩,⟨by (with_reducible repeat (first|refine blk_drewN ?_ _|refine blk_drew ?_|refine blk_alloc ?_ _)); refine blk_far ?_ NB290_301.out _; (with_reducible repeat (first|refine blk_drewN ?_ _|refine blk_drew ?_|refine blk_alloc ?_ _)); exact BK290.out⟩,⟨by (with_reducible repeat (first|refine blk_drewN ?_ _|refine blk_drew ?_|refine blk_alloc ?_ _)); refine blk_put (cs:=#[.int .i64 x302000_2,.int .i64 x302001_2,.int .i64 x302002_2,.int .i64 x302003_2]) ?_ 1 _ rfl; (with_reducible repeat (first|refine blk_drewN ?_ _|refine blk_drew ?_|refine blk_alloc ?_ _)); exact BK301.out⟩,⟨by repeat (first|(with_reducible first|exact HB.out|apply below_alloc|apply pw_below_drewN|apply below_drew1|refine below_set ?_ GE289.out|refine below_set ?_ GE290.out|refine below_set ?_ GE301.out|refine below_set ?_ GE320.out)|exact HB.out)⟩⟩
                  ·rw [if_neg c90] at H
                   have c90b0:((rdOf ByteArray.empty y302 x34_2).toList == ([100,111,119,110]:List UInt8))=false:=beq_eq_false_iff_ne.mpr c90
                   have c90b1:((rdOf ByteArray.empty y302 x34_2).toList != ([100,111,119,110]:List UInt8))=true:=bne_iff_ne.mpr c90
                   by_cases c95:(rdOf ByteArray.empty y302 x34_2).toList=([100,111,119,110,115,112,97,110]:List UInt8)
                   ·rw [if_pos c95] at H
                    have c95b0:((rdOf ByteArray.empty y302 x34_2).toList == ([100,111,119,110,115,112,97,110]:List UInt8))=true:=beq_iff_eq.mpr c95
                    have c95b1:((rdOf ByteArray.empty y302 x34_2).toList != ([100,111,119,110,115,112,97,110]:List UInt8))=false:=bne_eq_false_iff_eq.mpr c95
                    clear c95
                    have H':=Aside0.mk H
                    clear H
                    have hnb96:=NB301_289.out
                    have hnc96:=NB289_301.out
                    have hnb97:=NB301_290.out
                    have hnc97:=NB290_301.out
                    have hnb98:=NB301_320.out
                    have hnc98:=NB320_301.out
                    have hcz99_0:wc.cell? ⟨gb301,0,none⟩=some (.int .i64 x302000_2):=(blk_cell BK301.out 0).trans rfl
                    have hcz99_1:wc.cell? ⟨gb301,1,none⟩=some (.int .i64 x302001_2):=(blk_cell BK301.out 1).trans rfl
                    have hcz99_2:wc.cell? ⟨gb301,2,none⟩=some (.int .i64 x302002_2):=(blk_cell BK301.out 2).trans rfl
                    have hcz99_3:wc.cell? ⟨gb301,3,none⟩=some (.int .i64 x302003_2):=(blk_cell BK301.out 3).trans rfl
                    have hfz99_0:=blk_frozen BK301.out 0
                    have hfz99_1:=blk_frozen BK301.out 1
                    have hfz99_2:=blk_frozen BK301.out 2
                    have hfz99_3:=blk_frozen BK301.out 3
                    go_wp2
                    go_roundg kj71
                    case measure=>have:=HJ1.out; have:=HK2.out; have:=HJ47.out; have:=HJ69.out; have:=HJ71.out; omega
                    case rel=>exact ⟨(wrap64 (x34_2+1)),(x291000_2),(x291001_2),(x291002_2),(x291003_2),(x302000_2),(x302001_2),(x302002_2),(x11_71),(by first|rfl|(simp; done)|(simp [*]; done)),H',⟨by have:=HJ1.out; have:=HK2.out; have:=HJ47.out; have:=HJ69.out; have:=HJ71.out; omega⟩,⟨by (with_reducible repeat (first|apply Kd.R_alloc|apply Kd.R_drewN|apply Kd.R_drew)); exact Kd.R_mono (Kd.R_far (p:=⟨gb301,3,none⟩) (Kd.R_types HO_32.out BK301.out (by decide)) (fun _ hk=>hk.2) (.int .i64 x11_71)) (fun _ hk=>trivial)⟩,⟨by (with_reducible repeat (first|refine blk_drewN ?_ _|refine blk_drew ?_|refine blk_alloc ?_ _)); refine blk_far ?_ NB289_301.out _; (with_reducible repeat (first|refine blk_drewN ?_ _|refine blk_drew ?_|refine blk_alloc ?_ _)); exact BK289.out⟩,⟨by (with_reducible repeat (first|refine blk_drewN ?_ _|refine blk_drew ?_|refine blk_alloc ?_ _)); refine blk_far ?_ NB290_301.out _; (with_reducible repeat (first|refine blk_drewN ?_ _|refine blk_drew ?_|refine blk_alloc ?_ _)); exact BK290.out⟩,⟨by (with_reducible repeat (first|refine blk_drewN ?_ _|refine blk_drew ?_|refine blk_alloc ?_ _)); refine blk_put (cs:=#[.int .i64 x302000_2,.int .i64 x302001_2,.int .i64 x302002_2,.int .i64 x302003_2]) ?_ 3 _ rfl; (with_reducible repeat (first|refine blk_drewN ?_ _|refine blk_drew ?_|refine blk_alloc ?_ _)); exact BK301.out⟩,⟨by repeat (first|(with_reducible first|exact HB.out|apply below_alloc|apply pw_below_drewN|apply below_drew1|refine below_set ?_ GE289.out|refine below_set ?_ GE290.out|refine below_set ?_ GE301.out|refine below_set ?_ GE320.out)|exact HB.out)⟩⟩
                   ·rw [if_neg c95] at H
                    have c95b0:((rdOf ByteArray.empty y302 x34_2).toList == ([100,111,119,110,115,112,97,110]:List UInt8))=false:=beq_eq_false_iff_ne.mpr c95
                    have c95b1:((rdOf ByteArray.empty y302 x34_2).toList != ([100,111,119,110,115,112,97,110]:List UInt8))=true:=bne_iff_ne.mpr c95
                    by_cases c100:(rdOf ByteArray.empty y302 x34_2).toList=([117,112]:List UInt8)
                    ·rw [if_pos c100] at H
                     have c100b0:((rdOf ByteArray.empty y302 x34_2).toList == ([117,112]:List UInt8))=true:=beq_iff_eq.mpr c100
                     have c100b1:((rdOf ByteArray.empty y302 x34_2).toList != ([117,112]:List UInt8))=false:=bne_eq_false_iff_eq.mpr c100
                     clear c100
                     have H':=Aside0.mk H
                     clear H
                     have hnb101:=NB301_289.out
                     have hnc101:=NB289_301.out
                     have hnb102:=NB301_290.out
                     have hnc102:=NB290_301.out
                     have hnb103:=NB301_320.out
                     have hnc103:=NB320_301.out
                     have hcz104_0:wc.cell? ⟨gb301,0,none⟩=some (.int .i64 x302000_2):=(blk_cell BK301.out 0).trans rfl
                     have hcz104_1:wc.cell? ⟨gb301,1,none⟩=some (.int .i64 x302001_2):=(blk_cell BK301.out 1).trans rfl
                     have hcz104_2:wc.cell? ⟨gb301,2,none⟩=some (.int .i64 x302002_2):=(blk_cell BK301.out 2).trans rfl
                     have hcz104_3:wc.cell? ⟨gb301,3,none⟩=some (.int .i64 x302003_2):=(blk_cell BK301.out 3).trans rfl
                     have hfz104_0:=blk_frozen BK301.out 0
                     have hfz104_1:=blk_frozen BK301.out 1
                     have hfz104_2:=blk_frozen BK301.out 2
                     have hfz104_3:=blk_frozen BK301.out 3
                     go_wp2
                     go_roundg kj71
                     case measure=>have:=HJ1.out; have:=HK2.out; have:=HJ47.out; have:=HJ69.out; have:=HJ71.out; omega
                     case rel=>exact ⟨(wrap64 (x34_2+1)),(x291000_2),(x291001_2),(x291002_2),(x291003_2),(x11_71),(x302001_2),(x302002_2),(x302003_2),(by first|rfl|(simp; done)|(simp [*]; done)),H',⟨by have:=HJ1.out; have:=HK2.out; have:=HJ47.out; have:=HJ69.out; have:=HJ71.out; omega⟩,⟨by (with_reducible repeat (first|apply Kd.R_alloc|apply Kd.R_drewN|apply Kd.R_drew)); exact Kd.R_mono (Kd.R_far (p:=⟨gb301,0,none⟩) (Kd.R_types HO_32.out BK301.out (by decide)) (fun _ hk=>hk.2) (.int .i64 x11_71)) (fun _ hk=>trivial)⟩,⟨by (with_reducible repeat (first|refine blk_drewN ?_ _|refine blk_drew ?_|refine blk_alloc ?_ _)); refine blk_far ?_ NB289_301.out _; (with_reducible repeat (first|refine blk_drewN ?_ _|refine blk_drew ?_|refine blk_alloc ?_ _)); exact BK289.out⟩,⟨by (with_reducible repeat (first|refine blk_drewN ?_ _|refine blk_drew ?_|refine blk_alloc ?_ _)); refine blk_far ?_ NB290_301.out _; (with_reducible repeat (first|refine blk_drewN ?_ _|refine blk_drew ?_|refine blk_alloc ?_ _)); exact BK290.out⟩,⟨by (with_reducible repeat (first|refine blk_drewN ?_ _|refine blk_drew ?_|refine blk_alloc ?_ _)); refine blk_put (cs:=#[.int .i64 x302000_2,.int .i64 x302001_2,.int .i64 x302002_2,.int .i64 x302003_2]) ?_ 0 _ rfl; (with_reducible repeat (first|refine blk_drewN ?_ _|refine blk_drew ?_|refine blk_alloc ?_ _)); exact BK301.out⟩,⟨by repeat (first|(with_reducible first|exact HB.out|apply below_alloc|apply pw_below_drewN|apply below_drew1|refine below_set ?_ GE289.out|refine below_set ?_ GE290.out|refine below_set ?_ GE301.out|refine below_set ?_ GE320.out)|exact HB.out)⟩⟩
                    ·rw [if_neg c100] at H
                     have c100b0:((rdOf ByteArray.empty y302 x34_2).toList == ([117,112]:List UInt8))=false:=beq_eq_false_iff_ne.mpr c100
                     have c100b1:((rdOf ByteArray.empty y302 x34_2).toList != ([117,112]:List UInt8))=true:=bne_iff_ne.mpr c100
                     have H':=Aside0.mk H
                     clear H
                     have hnb105:=NB301_289.out
                     have hnc105:=NB289_301.out
                     have hnb106:=NB301_290.out
                     have hnc106:=NB290_301.out
                     have hnb107:=NB301_320.out
                     have hnc107:=NB320_301.out
                     have hcz108_0:wc.cell? ⟨gb301,0,none⟩=some (.int .i64 x302000_2):=(blk_cell BK301.out 0).trans rfl
                     have hcz108_1:wc.cell? ⟨gb301,1,none⟩=some (.int .i64 x302001_2):=(blk_cell BK301.out 1).trans rfl
                     have hcz108_2:wc.cell? ⟨gb301,2,none⟩=some (.int .i64 x302002_2):=(blk_cell BK301.out 2).trans rfl
                     have hcz108_3:wc.cell? ⟨gb301,3,none⟩=some (.int .i64 x302003_2):=(blk_cell BK301.out 3).trans rfl
                     have hfz108_0:=blk_frozen BK301.out 0
                     have hfz108_1:=blk_frozen BK301.out 1
                     have hfz108_2:=blk_frozen BK301.out 2
                     have hfz108_3:=blk_frozen BK301.out 3
                     go_wp2
                     go_roundg kj71
                     case measure=>have:=HJ1.out; have:=HK2.out; have:=HJ47.out; have:=HJ69.out; have:=HJ71.out; omega
                     case rel=>exact ⟨(wrap64 (x34_2+1)),(x291000_2),(x291001_2),(x291002_2),(x291003_2),(x302000_2),(x302001_2),(x11_71),(x302003_2),(by first|rfl|(simp; done)|(simp [*]; done)),H',⟨by have:=HJ1.out; have:=HK2.out; have:=HJ47.out; have:=HJ69.out; have:=HJ71.out; omega⟩,⟨by (with_reducible repeat (first|apply Kd.R_alloc|apply Kd.R_drewN|apply Kd.R_drew)); exact Kd.R_mono (Kd.R_far (p:=⟨gb301,2,none⟩) (Kd.R_types HO_32.out BK301.out (by decide)) (fun _ hk=>hk.2) (.int .i64 x11_71)) (fun _ hk=>trivial)⟩,⟨by (with_reducible repeat (first|refine blk_drewN ?_ _|refine blk_drew ?_|refine blk_alloc ?_ _)); refine blk_far ?_ NB289_301.out _; (with_reducible repeat (first|refine blk_drewN ?_ _|refine blk_drew ?_|refine blk_alloc ?_ _)); exact BK289.out⟩,⟨by (with_reducible repeat (first|refine blk_drewN ?_ _|refine blk_drew ?_|refine blk_alloc ?_ _)); refine blk_far ?_ NB290_301.out _; (with_reducible repeat (first|refine blk_drewN ?_ _|refine blk_drew ?_|refine blk_alloc ?_ _)); exact BK290.out⟩,⟨by (with_reducible repeat (first|refine blk_drewN ?_ _|refine blk_drew ?_|refine blk_alloc ?_ _)); refine blk_put (cs:=#[.int .i64 x302000_2,.int .i64 x302001_2,.int .i64 x302002_2,.int .i64 x302003_2]) ?_ 2 _ rfl; (with_reducible repeat (first|refine blk_drewN ?_ _|refine blk_drew ?_|refine blk_alloc ?_ _)); exact BK301.out⟩,⟨by repeat (first|(with_reducible first|exact HB.out|apply below_alloc|apply pw_below_drewN|apply below_drew1|refine below_set ?_ GE289.out|refine below_set ?_ GE290.out|refine below_set ?_ GE301.out|refine below_set ?_ GE320.out)|exact HB.out)⟩⟩
                 ·replace c89:=Bool.eq_false_iff.mpr c89
                  subst c89
                  have H1:(some (0,0,0,0,(rdOf ByteArray.empty y302 x34_2)))=some (r1,r2,r3,r4,r5):=by rw [if_neg (show ¬ (false=true) by decide)] at H; exact H
                  clear H
                  have H:=H1
                  clear H1
                  simp only [Option.some.injEq,Prod.mk.injEq] at H
                  obtain ⟨rfl,rfl,rfl,rfl,rfl⟩:=H
                  have hnb109:=NB290_289.out
                  have hnc109:=NB289_290.out
                  have hnb110:=NB290_301.out
                  have hnc110:=NB301_290.out
                  have hnb111:=NB290_320.out
                  have hnc111:=NB320_290.out
                  have hcz112_0:wc.cell? ⟨gb290,0,none⟩=some (.int .i64 x291000_2):=(blk_cell BK290.out 0).trans rfl
                  have hcz112_1:wc.cell? ⟨gb290,1,none⟩=some (.int .i64 x291001_2):=(blk_cell BK290.out 1).trans rfl
                  have hcz112_2:wc.cell? ⟨gb290,2,none⟩=some (.int .i64 x291002_2):=(blk_cell BK290.out 2).trans rfl
                  have hcz112_3:wc.cell? ⟨gb290,3,none⟩=some (.int .i64 x291003_2):=(blk_cell BK290.out 3).trans rfl
                  have hfz112_0:=blk_frozen BK290.out 0
                  have hfz112_1:=blk_frozen BK290.out 1
                  have hfz112_2:=blk_frozen BK290.out 2
                  have hfz112_3:=blk_frozen BK290.out 3
                  go_wp2
                  refine bodyPost_ret (results_ct rfl _ _ gb290 28 #[.int .i64 0,.int .i64 0,.int .i64 0,.int .i64 0] (0,0) _ rfl (by (with_reducible repeat (first|refine blk_drewN ?_ _|refine blk_drew ?_|refine blk_alloc ?_ _)); refine blk_put (cs:=#[.int .i64 0,.int .i64 0,.int .i64 0,.int .i64 x291003_2]) ?_ 3 _ rfl; (with_reducible repeat (first|refine blk_drewN ?_ _|refine blk_drew ?_|refine blk_alloc ?_ _)); refine blk_put (cs:=#[.int .i64 0,.int .i64 0,.int .i64 x291002_2,.int .i64 x291003_2]) ?_ 2 _ rfl; (with_reducible repeat (first|refine blk_drewN ?_ _|refine blk_drew ?_|refine blk_alloc ?_ _)); refine blk_put (cs:=#[.int .i64 0,.int .i64 x291001_2,.int .i64 x291002_2,.int .i64 x291003_2]) ?_ 1 _ rfl; (with_reducible repeat (first|refine blk_drewN ?_ _|refine blk_drew ?_|refine blk_alloc ?_ _)); refine blk_put (cs:=#[.int .i64 x291000_2,.int .i64 x291001_2,.int .i64 x291002_2,.int .i64 x291003_2]) ?_ 0 _ rfl; (with_reducible repeat (first|refine blk_drewN ?_ _|refine blk_drew ?_|refine blk_alloc ?_ _)); exact BK290.out) Try.underlying28 rfl (by kernel_rfl)) rfl ?_
                  exact ⟨by first|rfl|(simp [errW_none,errW_some]<;>rfl)|(simp [*,errW_none,errW_some]<;>rfl),by repeat (first|(with_reducible first|exact HB.out|apply below_alloc|apply pw_below_drewN|apply below_drew1|refine below_set ?_ GE289.out|refine below_set ?_ GE290.out|refine below_set ?_ GE301.out|refine below_set ?_ GE320.out)|exact HB.out)⟩
          ·replace c46:=Bool.eq_false_iff.mpr c46
           subst c46
           have H1:(impl_PaceOf.l0 k2 y302 (y302.length:Int) (wrap64 (x34_2+1)) a0_0 a0_1 a0_2 l0_3 l0_4 x302000_2 x302001_2 x302002_2 x302003_2)=some (r1,r2,r3,r4,r5):=by rw [if_neg (show ¬ (false=true) by decide)] at H; exact H
           clear H
           have H:=H1
           clear H1
           have H':=Aside0.mk H
           clear H
           go_wp2
           go_roundg k2
           case measure=>have:=HJ1.out; have:=HK2.out; omega
           case rel=>exact ⟨(wrap64 (x34_2+1)),(x291000_2),(x291001_2),(x291002_2),(x291003_2),(x302000_2),(x302001_2),(x302002_2),(x302003_2),(by first|rfl|(simp; done)|(simp [*]; done)),H',⟨by have:=HJ1.out; have:=HK2.out; omega⟩,⟨by (with_reducible repeat (first|apply Kd.R_alloc|apply Kd.R_drewN|apply Kd.R_drew)); exact Kd.R_mono HO_32.out (fun _ hk=>trivial)⟩,⟨by (with_reducible repeat (first|refine blk_drewN ?_ _|refine blk_drew ?_|refine blk_alloc ?_ _)); exact BK289.out⟩,⟨by (with_reducible repeat (first|refine blk_drewN ?_ _|refine blk_drew ?_|refine blk_alloc ?_ _)); exact BK290.out⟩,⟨by (with_reducible repeat (first|refine blk_drewN ?_ _|refine blk_drew ?_|refine blk_alloc ?_ _)); exact BK301.out⟩,⟨by repeat (first|(with_reducible first|exact HB.out|apply below_alloc|apply pw_below_drewN|apply below_drew1|refine below_set ?_ GE289.out|refine below_set ?_ GE290.out|refine below_set ?_ GE301.out)|exact HB.out)⟩⟩
         ·rw [if_neg c37] at H
          exact absurd H (by simp)
        ·rw [if_neg c36] at H
         exact absurd H (by simp)
       ·rw [if_neg c35] at H
        have c35b0:decide (x34_2<(y302.length:Int))=false:=decide_eq_false c35
        clear c35
        (first|rw [c35b0]|(simp only [i64_w,i32_w]; rw [c35b0])|skip)
        simp only [Option.some.injEq,Prod.mk.injEq] at H
        obtain ⟨rfl,rfl,rfl,rfl,rfl⟩:=H
        have hnb113:=NB301_289.out
        have hnc113:=NB289_301.out
        have hnb114:=NB301_290.out
        have hnc114:=NB290_301.out
        have hcz115_0:wr.cell? ⟨gb301,0,none⟩=some (.int .i64 x302000_2):=(blk_cell BK301.out 0).trans rfl
        have hcz115_1:wr.cell? ⟨gb301,1,none⟩=some (.int .i64 x302001_2):=(blk_cell BK301.out 1).trans rfl
        have hcz115_2:wr.cell? ⟨gb301,2,none⟩=some (.int .i64 x302002_2):=(blk_cell BK301.out 2).trans rfl
        have hcz115_3:wr.cell? ⟨gb301,3,none⟩=some (.int .i64 x302003_2):=(blk_cell BK301.out 3).trans rfl
        have hfz115_0:=blk_frozen BK301.out 0
        have hfz115_1:=blk_frozen BK301.out 1
        have hfz115_2:=blk_frozen BK301.out 2
        have hfz115_3:=blk_frozen BK301.out 3
        have hnb116:=NB290_289.out
        have hnc116:=NB289_290.out
        have hcz117_0:wr.cell? ⟨gb290,0,none⟩=some (.int .i64 x291000_2):=(blk_cell BK290.out 0).trans rfl
        have hcz117_1:wr.cell? ⟨gb290,1,none⟩=some (.int .i64 x291001_2):=(blk_cell BK290.out 1).trans rfl
        have hcz117_2:wr.cell? ⟨gb290,2,none⟩=some (.int .i64 x291002_2):=(blk_cell BK290.out 2).trans rfl
        have hcz117_3:wr.cell? ⟨gb290,3,none⟩=some (.int .i64 x291003_2):=(blk_cell BK290.out 3).trans rfl
        have hfz117_0:=blk_frozen BK290.out 0
        have hfz117_1:=blk_frozen BK290.out 1
        have hfz117_2:=blk_frozen BK290.out 2
        have hfz117_3:=blk_frozen BK290.out 3
        go_wp2
        refine bodyPost_ret (results_ct rfl _ _ gb290 28 #[.int .i64 x302000_2,.int .i64 x302001_2,.int .i64 x302002_2,.int .i64 x302003_2] (0,0) _ rfl (by (with_reducible repeat (first|refine blk_drewN ?_ _|refine blk_drew ?_|refine blk_alloc ?_ _)); refine blk_put (cs:=#[.int .i64 x302000_2,.int .i64 x302001_2,.int .i64 x302002_2,.int .i64 x291003_2]) ?_ 3 _ rfl; (with_reducible repeat (first|refine blk_drewN ?_ _|refine blk_drew ?_|refine blk_alloc ?_ _)); refine blk_put (cs:=#[.int .i64 x302000_2,.int .i64 x302001_2,.int .i64 x291002_2,.int .i64 x291003_2]) ?_ 2 _ rfl; (with_reducible repeat (first|refine blk_drewN ?_ _|refine blk_drew ?_|refine blk_alloc ?_ _)); refine blk_put (cs:=#[.int .i64 x302000_2,.int .i64 x291001_2,.int .i64 x291002_2,.int .i64 x291003_2]) ?_ 1 _ rfl; (with_reducible repeat (first|refine blk_drewN ?_ _|refine blk_drew ?_|refine blk_alloc ?_ _)); refine blk_put (cs:=#[.int .i64 x291000_2,.int .i64 x291001_2,.int .i64 x291002_2,.int .i64 x291003_2]) ?_ 0 _ rfl; (with_reducible repeat (first|refine blk_drewN ?_ _|refine blk_drew ?_|refine blk_alloc ?_ _)); exact BK290.out) Try.underlying28 rfl (by kernel_rfl)) rfl ?_
        exact ⟨by first|rfl|(simp [errW_none,errW_some]<;>rfl)|(simp [*,errW_none,errW_some]<;>rfl),by repeat (first|(with_reducible first|exact HB.out|apply below_alloc|apply pw_below_drewN|apply below_drew1|refine below_set ?_ GE289.out|refine below_set ?_ GE290.out|refine below_set ?_ GE301.out)|exact HB.out)⟩
end
end Go.Proofs.Ytdlhidjphaaklaa.P
