import Derived.Test.YtdlhidjphaaklaaP0
import Derived.Test.YtdlhidjphaaklaaP_laws_toNode
namespace Go.Proofs.Ytdlhidjphaaklaa.P
open Go.RowKit Go.Proofs.YtdlhidjphaaklaaW.PrintWords Go.Proofs.YtdlhidjphaaklaaW.PrintLast Go.Proofs.YtdlhidjphaaklaaW.PrintMore
attribute [local go_sem] max2_int min2_int max_two min_two max_three min_three max_four min_four
set_option linter.unusedVariables false
set_option linter.unusedSimpArgs false
noncomputable section
def impl_PaceNew.f:Option (Int × Int × Int × Int):=some (0,0,0,300)
set_option maxHeartbeats 8000000 in
set_option maxRecDepth 100000 in
theorem impl_PaceNew.calls (r1:Int) (r2:Int) (r3:Int) (r4:Int) (w:World) (h:impl_PaceNew.f=some (r1,r2,r3,r4)) :
  Calls Try.prog 27 #[] w fun e w'=>e=.returned (.agg #[.int .i64 r1,.int .i64 r2,.int .i64 r3,.int .i64 r4])∧Below w.heap.size w w':=by
 have hu28:=Try.underlying28
 have HB:=Aside0.mk (Below.refl w.heap.size w)
 have H:(some (0,0,0,300))=some (r1,r2,r3,r4):=h
 clear h
 simp only [Option.some.injEq,Prod.mk.injEq] at H
 obtain ⟨rfl,rfl,rfl,rfl⟩:=H
 go_enter Try.func27,Try.ntmps27
 go_wp2_with (first|((with_reducible refine gate_dst (N:=0) rfl ?_); refine box_event ?hg (N:=0) ?hd (cs:=#[.int .i64 0,.int .i64 0,.int .i64 0,.int .i64 0]) (t:=28) ?hr ?_; (case hd=>rfl); (case hg=>rfl); (case hr=>first|(go_simp; done)|(go_simp; rfl)); intro gb271 hg w1 hbox hb; have n0_:=Aside0.mk (below_step (by repeat (first|(with_reducible first|exact HB.out|apply below_alloc|apply pw_below_drewN|apply below_drew1)|exact HB.out)) hb); have n1_:=Aside0.mk (hbox); have n2_:=Aside0.mk ((by rw [hg]; exact (below_size (by repeat (first|(with_reducible first|exact HB.out|apply below_alloc|apply pw_below_drewN|apply below_drew1)|exact HB.out))):w.heap.size≤gb271)); have n3_:=Aside0.mk ((by rw [hg]; exact (below_size (by repeat (first|(with_reducible first|exact HB.out|apply below_alloc|apply pw_below_drewN|apply below_drew1)|exact HB.out))):w.heap.size≤gb271)); clear HB; have HB:=n0_; have BK271:=n1_; have GW271:=n2_; have GE271:=n3_; clear n0_ n1_ n2_ n3_; clear hb hbox hg; have hcz2_0:w1.cell? ⟨gb271,0,none⟩=some (.int .i64 0):=(blk_cell BK271.out 0).trans rfl; have hcz2_1:w1.cell? ⟨gb271,1,none⟩=some (.int .i64 0):=(blk_cell BK271.out 1).trans rfl; have hcz2_2:w1.cell? ⟨gb271,2,none⟩=some (.int .i64 0):=(blk_cell BK271.out 2).trans rfl; have hcz2_3:w1.cell? ⟨gb271,3,none⟩=some (.int .i64 0):=(blk_cell BK271.out 3).trans rfl; have hfz2_0:=blk_frozen BK271.out 0; have hfz2_1:=blk_frozen BK271.out 1; have hfz2_2:=blk_frozen BK271.out 2; have hfz2_3:=blk_frozen BK271.out 3))
 refine bodyPost_ret (results_cell_row rfl _ _ gb271 28 #[.int .i64 0,.int .i64 0,.int .i64 0,.int .i64 300] (0,0) _ rfl (by (with_reducible repeat (first|refine blk_drewN ?_ _|refine blk_drew ?_|refine blk_alloc ?_ _)); refine blk_put (cs:=#[.int .i64 0,.int .i64 0,.int .i64 0,.int .i64 0]) ?_ 3 _ rfl; (with_reducible repeat (first|refine blk_drewN ?_ _|refine blk_drew ?_|refine blk_alloc ?_ _)); refine blk_put (cs:=#[.int .i64 0,.int .i64 0,.int .i64 0,.int .i64 0]) ?_ 2 _ rfl; (with_reducible repeat (first|refine blk_drewN ?_ _|refine blk_drew ?_|refine blk_alloc ?_ _)); refine blk_put (cs:=#[.int .i64 0,.int .i64 0,.int .i64 0,.int .i64 0]) ?_ 1 _ rfl; (with_reducible repeat (first|refine blk_drewN ?_ _|refine blk_drew ?_|refine blk_alloc ?_ _)); refine blk_put (cs:=#[.int .i64 0,.int .i64 0,.int .i64 0,.int .i64 0]) ?_ 0 _ rfl; (with_reducible repeat (first|refine blk_drewN ?_ _|refine blk_drew ?_|refine blk_alloc ?_ _)); exact BK271.out) Try.underlying28 rfl (by kernel_rfl)) rfl ?_
 exact ⟨by first|rfl|(simp [errW_none,errW_some]<;>rfl)|(simp [*,errW_none,errW_some]<;>rfl),by repeat (first|(with_reducible first|exact HB.out|apply below_alloc|apply pw_below_drewN|apply below_drew1|refine below_set ?_ GE271.out)|exact HB.out)⟩
def slices_Index_string_string.l0:Nat→List ByteArray→ByteArray→Int→Int→Option (Int)
 |0,_,_,_,_=>none
 |k+1,x0,x1,x7,x8=>if x8<x7 then (if 0≤x8 then (if x8<(x0.length:Int) then (if x1.toList=(rdOf ByteArray.empty x0 x8).toList then (some x8) else (slices_Index_string_string.l0 k x0 x1 x7 (wrap64 (x8+1)))) else (none)) else (none)) else (some (-1))
def slices_Index_string_string.f (k:Nat) (l0:List ByteArray) (a1:ByteArray):Option (Int):=slices_Index_string_string.l0 k l0 a1 (l0.length:Int) 0
theorem slices_Index_string_string.mono_l:∀ k,(∀ y0 y1 y2 y3,LeO (slices_Index_string_string.l0 k y0 y1 y2 y3) (slices_Index_string_string.l0 (k+1) y0 y1 y2 y3))
 |0=>fun _ _ _ _ r h=>by simp [slices_Index_string_string.l0] at h
 |k+1=>by
  have ih0:=slices_Index_string_string.mono_l k
  ·intro y0 y1 y2 y3
   unfold slices_Index_string_string.l0
   repeat' first
   |(with_reducible exact ih0 _ _ _ _)
   |(with_reducible exact LeO.refl _)
   |(with_reducible exact LeO.none _)
   |(with_reducible refine LeO.ite ?_ ?_)
   |(with_reducible refine LeO.bind ?_ (fun _=>?_))
   |exact ih0 _ _ _ _
   |exact LeO.none _
   |refine LeO.ite ?_ ?_
   |refine LeO.bind ?_ (fun _=>?_)
theorem slices_Index_string_string.mono:∀ a0 a1 k,LeO (slices_Index_string_string.f k a0 a1) (slices_Index_string_string.f (k+1) a0 a1):=by
 intro a0 a1 k
 have ih0:=slices_Index_string_string.mono_l k
 unfold slices_Index_string_string.f
 repeat' first
   |(with_reducible exact ih0 _ _ _ _)
   |(with_reducible exact LeO.refl _)
   |(with_reducible exact LeO.none _)
   |(with_reducible refine LeO.ite ?_ ?_)
   |(with_reducible refine LeO.bind ?_ (fun _=>?_))
   |exact ih0 _ _ _ _
   |exact LeO.none _
   |refine LeO.ite ?_ ?_
   |refine LeO.bind ?_ (fun _=>?_)
set_option maxHeartbeats 8000000 in
set_option maxRecDepth 100000 in
theorem slices_Index_string_string.calls (k:Nat) (A0:Option Addr) (c0:Nat) (l0:List ByteArray) (a1:ByteArray) (r:Int) (w:World) (hr0:Kd.C Kd.string w A0 l0.length l0) (hc0:l0.length≤c0) (h:slices_Index_string_string.f k l0 a1=some r) :
  Calls Try.prog 53 #[.slice A0 l0.length c0,.string a1] w fun e w'=>e=.returned (.int .i64 r)∧Drawn0 w w':=by
 have HR0:=Aside0.mk hr0
 have HC0:=Aside0.mk hc0
 clear hr0 hc0
 have H:(slices_Index_string_string.l0 k l0 a1 (l0.length:Int) 0)=some r:=h
 clear h
 have H':=Aside0.mk H
 clear H
 go_enter Try.func53,Try.ntmps53
 go_wp2
 go_loopg [8] k (fun kq v8 w'=>∃ (x8_1:Int),v8=.int .i64 x8_1∧Aside0 (slices_Index_string_string.l0 kq l0 a1 (l0.length:Int) x8_1=some r)∧Aside0 (kq≤k)∧Drawn0 w w')
 case atStart=>exact ⟨(0),(by first|rfl|(simp; done)|(simp [*]; done)),H',⟨Nat.le_refl _⟩,by repeat (first|exact Drawn0.refl _|apply Drawn0.step)⟩
 case round =>
  clear H'
  try clear p2
  obtain ⟨x8_1,rfl,HA,HK1,⟨m1,rfl⟩⟩:=hrel
  cases gk with
  |zero=>exact absurd HA.out (by simp [slices_Index_string_string.l0])
  |succ k1 =>
   have H:=HA.out
   clear HA
   simp only [slices_Index_string_string.l0] at H
   by_cases c3:x8_1<(l0.length:Int)
   ·rw [if_pos c3] at H
    have c3b0:decide (x8_1<(l0.length:Int))=true:=decide_eq_true c3
    clear c3
    by_cases c4:0≤x8_1
    ·rw [if_pos c4] at H
     have c4b0:decide (0≤x8_1)=true:=decide_eq_true c4
     clear c4
     by_cases c5:x8_1<(l0.length:Int)
     ·rw [if_pos c5] at H
      have c5b0:decide (x8_1<(l0.length:Int))=true:=decide_eq_true c5
      clear c5
      by_cases c6:a1.toList=(rdOf ByteArray.empty l0 x8_1).toList
      ·rw [if_pos c6] at H
       have c6b0:(a1.toList == (rdOf ByteArray.empty l0 x8_1).toList)=true:=beq_iff_eq.mpr c6
       have c6b1:(a1.toList != (rdOf ByteArray.empty l0 x8_1).toList)=false:=bne_eq_false_iff_eq.mpr c6
       clear c6
       obtain rfl:=Option.some.inj H
       have p272:0≤(x8_1:Int):=of_decide_eq_true (by first|(with_reducible assumption)|assumption)
       have q272:x8_1<(l0.length:Int):=of_decide_eq_true (by first|(with_reducible assumption)|assumption)
       obtain ⟨ad272,e272,hx272_0⟩:=Kd.at_string HR0.out x8_1 p272 q272
       cases e272
       replace p272:=eq_true p272
       replace q272:=eq_true q272
       go_wp2
       go_ret
       exact ⟨by first|rfl|(simp; done)|(simp [*]; done),by repeat (first|exact Drawn0.refl _|apply Drawn0.step)⟩
      ·rw [if_neg c6] at H
       have c6b0:(a1.toList == (rdOf ByteArray.empty l0 x8_1).toList)=false:=beq_eq_false_iff_ne.mpr c6
       have c6b1:(a1.toList != (rdOf ByteArray.empty l0 x8_1).toList)=true:=bne_iff_ne.mpr c6
       have H':=Aside0.mk H
       clear H
       have p272:0≤(x8_1:Int):=of_decide_eq_true (by first|(with_reducible assumption)|assumption)
       have q272:x8_1<(l0.length:Int):=of_decide_eq_true (by first|(with_reducible assumption)|assumption)
       obtain ⟨ad272,e272,hx272_0⟩:=Kd.at_string HR0.out x8_1 p272 q272
       cases e272
       replace p272:=eq_true p272
       replace q272:=eq_true q272
       go_wp2
       go_roundg k1
       case measure=>have:=HK1.out; omega
       case rel=>exact ⟨(wrap64 (x8_1+1)),(by first|rfl|(simp; done)|(simp [*]; done)),H',⟨by have:=HK1.out; omega⟩,by repeat (first|exact Drawn0.refl _|apply Drawn0.step)⟩
     ·rw [if_neg c5] at H
      exact absurd H (by simp)
    ·rw [if_neg c4] at H
     exact absurd H (by simp)
   ·rw [if_neg c3] at H
    have c3b0:decide (x8_1<(l0.length:Int))=false:=decide_eq_false c3
    clear c3
    obtain rfl:=Option.some.inj H
    go_wp2
    go_ret
    exact ⟨by first|rfl|(simp; done)|(simp [*]; done),by repeat (first|exact Drawn0.refl _|apply Drawn0.step)⟩
def slices_Contains_string_string.f (k:Nat) (l0:List ByteArray) (a1:ByteArray):Option (Bool):=(slices_Index_string_string.f k l0 a1).bind fun t273=>(some (decide (t273 ≥ 0)))
theorem slices_Contains_string_string.mono:∀ a0 a1 k,LeO (slices_Contains_string_string.f k a0 a1) (slices_Contains_string_string.f (k+1) a0 a1):=by
 intro a0 a1 k
 unfold slices_Contains_string_string.f
 repeat' first
   |(with_reducible exact slices_Index_string_string.mono _ _ _)
   |(with_reducible exact LeO.refl _)
   |(with_reducible exact LeO.none _)
   |(with_reducible refine LeO.ite ?_ ?_)
   |(with_reducible refine LeO.bind ?_ (fun _=>?_))
   |exact slices_Index_string_string.mono _ _ _
   |exact LeO.none _
   |refine LeO.ite ?_ ?_
   |refine LeO.bind ?_ (fun _=>?_)
set_option maxHeartbeats 8000000 in
set_option maxRecDepth 100000 in
theorem slices_Contains_string_string.calls (k:Nat) (A0:Option Addr) (c0:Nat) (l0:List ByteArray) (a1:ByteArray) (r:Bool) (w:World) (hr0:Kd.C Kd.string w A0 l0.length l0) (hc0:l0.length≤c0) (h:slices_Contains_string_string.f k l0 a1=some r) :
  Calls Try.prog 28 #[.slice A0 l0.length c0,.string a1] w fun e w'=>e=.returned (.bool r)∧Drawn0 w w':=by
 have HR0:=Aside0.mk hr0
 have HC0:=Aside0.mk hc0
 clear hr0 hc0
 have H:((slices_Index_string_string.f k l0 a1).bind fun t273=>(some (decide (t273 ≥ 0))))=some r:=h
 clear h
 replace H:=Option.bind_eq_some_iff.mp H
 obtain ⟨t273,A30,H⟩:=H
 replace H:(some (decide (t273 ≥ 0)))=some r:=H
 have A3:=Aside0.mk A30
 clear A30
 obtain rfl:=Option.some.inj H
 go_enter Try.func28,Try.ntmps28
 go_wp2_with (first|((with_reducible refine gate_callee (f:=53) rfl ?_); refine goesL_ (some 7) rfl rfl Try.func53 (by kernel_rfl) rfl #[.slice A0 l0.length c0,.string a1] rfl (by (try simp only [List.map_toArray,List.map_cons,List.map_nil]); first|done|rfl|(simp only [List.length_drop,List.length_take]; rfl)) ?_; (with_reducible refine (slices_Index_string_string.calls k _ _ l0 a1 t273 _ ?side1 ?side2 A3.out).mono ?_); (case side1=>repeat (first|exact HR0.out|(with_reducible refine Kd.C_alloc ?_ _)|(with_reducible refine Kd.C_drewN ?_ _)|(with_reducible refine Kd.C_drew ?_))); (case side2=>exact HC0.out); rintro e w' ⟨rfl,⟨nd,rfl⟩⟩; refine ⟨_,rfl,?_⟩))
 go_ret
 exact ⟨by first|rfl|(simp; done)|(simp [*]; done),by repeat (first|exact Drawn0.refl _|apply Drawn0.step)⟩
def impl_isMany.f (a0:Int):Option (Bool):=(impl_from.f a0 0 1000).bind fun t274=>(some t274)
set_option maxHeartbeats 8000000 in
set_option maxRecDepth 100000 in
theorem impl_isMany.calls (a0:Int) (r:Bool) (w:World) (h:impl_isMany.f a0=some r) :
  Calls Try.prog 31 #[.int .i64 a0] w fun e w'=>e=.returned (.bool r)∧Drawn0 w w':=by
 have H:((impl_from.f a0 0 1000).bind fun t274=>(some t274))=some r:=h
 clear h
 replace H:=Option.bind_eq_some_iff.mp H
 obtain ⟨t274,A20,H⟩:=H
 replace H:(some t274)=some r:=H
 have A2:=Aside0.mk A20
 clear A20
 obtain rfl:=Option.some.inj H
 go_enter Try.func31,Try.ntmps31
 go_wp2_with (first|((with_reducible refine gate_callee (f:=55) rfl ?_); refine goesL_ (some 4) rfl rfl Try.func55 (by kernel_rfl) rfl #[.int .i64 a0,.int .i64 0,.int .i64 1000] rfl (by (try simp only [List.map_toArray,List.map_cons,List.map_nil]); first|done|rfl|(simp only [List.length_drop,List.length_take]; rfl)) ?_; (with_reducible refine (impl_from.calls a0 0 1000 t274 _ A2.out).mono ?_); rintro e w' ⟨rfl,⟨nd,rfl⟩⟩; refine ⟨_,rfl,?_⟩))
 go_ret
 exact ⟨by first|rfl|(simp; done)|(simp [*]; done),by repeat (first|exact Drawn0.refl _|apply Drawn0.step)⟩
mutual
def impl_Digits.j0:Nat→Int→Bool→Option (ByteArray)
 |0,_,_=>none
 |k+1,x0,x3=>if x3=true then ((impl_Digits.f k (wrap64 (-x0))).bind fun t275=>(if 1+t275.size≤9223372036854775807 then (some ((⟨#[45]⟩:ByteArray) ++ t275)) else (none))) else (if x0<0 then ((impl_Digits.f k (wrap64 (Int.tdiv x0 10))).bind fun t276=>((impl_Digits.f k (wrap64 (-(Int.tmod x0 10)))).bind fun t277=>(if t276.size+t277.size≤9223372036854775807 then (some (t276 ++ t277)) else (none)))) else (if x0<10 then (some (Utf8.encode (wrap32 (wrap64 (48+x0))))) else ((impl_Digits.f k (wrap64 (Int.tdiv x0 10))).bind fun t278=>(if t278.size+(Utf8.encode (wrap32 (wrap64 (48+(Int.tmod x0 10))))).size≤9223372036854775807 then (some (t278 ++ (Utf8.encode (wrap32 (wrap64 (48+(Int.tmod x0 10))))))) else (none)))))
def impl_Digits.f:Nat→Int→Option (ByteArray)
 |0,_=>none
 |k+1,a0=>if a0<0 then (impl_Digits.j0 k a0 (decide (a0 > (-10)))) else (impl_Digits.j0 k a0 false)
end
theorem impl_Digits.mono_l:∀ k,(∀ y0,LeO (impl_Digits.f k y0) (impl_Digits.f (k+1) y0))∧(∀ y0 y1,LeO (impl_Digits.j0 k y0 y1) (impl_Digits.j0 (k+1) y0 y1))
 |0=>⟨fun _ r h=>by simp [impl_Digits.f] at h,fun _ _ r h=>by simp [impl_Digits.j0] at h⟩
 |k+1=>by
  obtain ⟨ih0,ih1⟩:=impl_Digits.mono_l k
  refine ⟨?_,?_⟩
  ·intro y0
   unfold impl_Digits.f
   repeat' first
   |(with_reducible exact ih0 _)
   |(with_reducible exact ih1 _ _)
   |(with_reducible exact LeO.refl _)
   |(with_reducible exact LeO.none _)
   |(with_reducible refine LeO.ite ?_ ?_)
   |(with_reducible refine LeO.bind ?_ (fun _=>?_))
   |exact ih0 _
   |exact ih1 _ _
   |exact LeO.none _
   |refine LeO.ite ?_ ?_
   |refine LeO.bind ?_ (fun _=>?_)
  ·intro y0 y1
   unfold impl_Digits.j0
   repeat' first
   |(with_reducible exact ih0 _)
   |(with_reducible exact ih1 _ _)
   |(with_reducible exact LeO.refl _)
   |(with_reducible exact LeO.none _)
   |(with_reducible refine LeO.ite ?_ ?_)
   |(with_reducible refine LeO.bind ?_ (fun _=>?_))
   |exact ih0 _
   |exact ih1 _ _
   |exact LeO.none _
   |refine LeO.ite ?_ ?_
   |refine LeO.bind ?_ (fun _=>?_)
theorem impl_Digits.mono:∀ a0 k,LeO (impl_Digits.f k a0) (impl_Digits.f (k+1) a0):=by
 intro a0 k
 obtain ⟨ih0,ih1⟩:=impl_Digits.mono_l k
 exact ih0 a0
set_option maxHeartbeats 8000000 in
set_option maxRecDepth 100000 in
theorem impl_Digits.calls (k:Nat):∀ (a0:Int) (r:ByteArray) (w:World) (h:impl_Digits.f k a0=some r),
  Calls Try.prog 92 #[.int .i64 a0] w fun e w'=>e=.returned (.string r)∧Drawn0 w w':=by
 induction k using Nat.strongRecOn with
 |_ k ih =>
 intro a0 r w h
 cases k with
 |zero=>exact absurd h (by simp [impl_Digits.f])
 |succ k =>
 simp only [impl_Digits.f] at h
 have H:(if a0<0 then (impl_Digits.j0 k a0 (decide (a0 > (-10)))) else (impl_Digits.j0 k a0 false))=some r:=h
 clear h
 have HC2:=Aside0.mk H
 clear H
 go_enter Try.func92,Try.ntmps92
 go_upto_region 1 with (fail)
 go_cut [3] (fun v3 wc=>∃ (kq:Nat) (x3_1:Bool),v3=.bool x3_1∧Aside0 (impl_Digits.j0 kq a0 x3_1=some r)∧Aside0 (kq≤k)∧Drawn0 w wc)
 case first =>
  have H:=HC2.out
  clear HC2
  by_cases c3:a0<0
  ·rw [if_pos c3] at H
   have c3b0:decide (a0<0)=true:=decide_eq_true c3
   clear c3
   (first|rw [c3b0]|(simp only [i64_w,i32_w]; rw [c3b0])|skip)
   have H':=Aside0.mk H
   clear H
   go_wp2
   go_meet
   case rel=>exact ⟨_,(decide (a0 > (-10))),(by first|rfl|(simp; done)|(simp [*]; done)),H',⟨by first|omega|exact Nat.le_refl _⟩,by repeat (first|exact Drawn0.refl _|apply Drawn0.step)⟩
  ·rw [if_neg c3] at H
   have c3b0:decide (a0<0)=false:=decide_eq_false c3
   clear c3
   (first|rw [c3b0]|(simp only [i64_w,i32_w]; rw [c3b0])|skip)
   have H':=Aside0.mk H
   clear H
   go_wp2
   go_meet
   case rel=>exact ⟨_,(false),(by first|rfl|(simp; done)|(simp [*]; done)),H',⟨by first|omega|exact Nat.le_refl _⟩,by repeat (first|exact Drawn0.refl _|apply Drawn0.step)⟩
 case rest =>
  clear HC2
  try clear p2
  try clear c3
  try clear c3b0
  obtain ⟨kq,x3_1,rfl,HA,HJ1,⟨mc1,rfl⟩⟩:=hcut
  cases kq with
  |zero=>exact absurd HA.out (by simp [impl_Digits.j0])
  |succ kj1 =>
   have H:=HA.out
   clear HA
   simp only [impl_Digits.j0] at H
   by_cases c4:x3_1=true
   ·subst c4
    have H1:((impl_Digits.f kj1 (wrap64 (-a0))).bind fun t275=>(if 1+t275.size≤9223372036854775807 then (some ((⟨#[45]⟩:ByteArray) ++ t275)) else (none)))=some r:=by rw [if_pos rfl] at H; exact H
    clear H
    have H:=H1
    clear H1
    replace H:=Option.bind_eq_some_iff.mp H
    obtain ⟨t275,A50,H⟩:=H
    replace H:(if 1+t275.size≤9223372036854775807 then (some ((⟨#[45]⟩:ByteArray) ++ t275)) else (none))=some r:=H
    have A5:=Aside0.mk A50
    clear A50
    by_cases c6:1+t275.size≤9223372036854775807
    ·rw [if_pos c6] at H
     have c6b0:=eq_true c6
     have c6b1:decide (1+t275.size≤9223372036854775807)=true:=decide_eq_true c6
     try have c6b2:(9223372036854775807<1+t275.size)=False:=eq_false (Nat.not_lt.2 c6)
     obtain rfl:=Option.some.inj H
     go_wp2_with (first|((with_reducible refine gate_callee (f:=92) rfl ?_); refine goesL_ (some 12) rfl rfl Try.func92 (by kernel_rfl) rfl #[.int .i64 (wrap64 (-a0))] rfl (by (try simp only [List.map_toArray,List.map_cons,List.map_nil]); first|done|rfl|(simp only [List.length_drop,List.length_take]; rfl)) ?_; (with_reducible refine (ih kj1 (by have:=HJ1.out; omega) (wrap64 (-a0)) t275 _ A5.out).mono ?_); rintro e w' ⟨rfl,⟨nd,rfl⟩⟩; refine ⟨_,rfl,?_⟩))
     go_ret
     exact ⟨by first|rfl|(simp; done)|(simp [*]; done),by repeat (first|exact Drawn0.refl _|apply Drawn0.step)⟩
    ·rw [if_neg c6] at H
     exact absurd H (by simp)
   ·replace c4:=Bool.eq_false_iff.mpr c4
    subst c4
    have H1:(if a0<0 then ((impl_Digits.f kj1 (wrap64 (Int.tdiv a0 10))).bind fun t276=>((impl_Digits.f kj1 (wrap64 (-(Int.tmod a0 10)))).bind fun t277=>(if t276.size+t277.size≤9223372036854775807 then (some (t276 ++ t277)) else (none)))) else (if a0<10 then (some (Utf8.encode (wrap32 (wrap64 (48+a0))))) else ((impl_Digits.f kj1 (wrap64 (Int.tdiv a0 10))).bind fun t278=>(if t278.size+(Utf8.encode (wrap32 (wrap64 (48+(Int.tmod a0 10))))).size≤9223372036854775807 then (some (t278 ++ (Utf8.encode (wrap32 (wrap64 (48+(Int.tmod a0 10))))))) else (none)))))=some r:=by rw [if_neg (show ¬ (false=true) by decide)] at H; exact H
    clear H
    have H:=H1
    clear H1
    by_cases c7:a0<0
    ·rw [if_pos c7] at H
     have c7b0:decide (a0<0)=true:=decide_eq_true c7
     clear c7
     replace H:=Option.bind_eq_some_iff.mp H
     obtain ⟨t276,A80,H⟩:=H
     replace H:((impl_Digits.f kj1 (wrap64 (-(Int.tmod a0 10)))).bind fun t277=>(if t276.size+t277.size≤9223372036854775807 then (some (t276 ++ t277)) else (none)))=some r:=H
     have A8:=Aside0.mk A80
     clear A80
     replace H:=Option.bind_eq_some_iff.mp H
     obtain ⟨t277,A90,H⟩:=H
     replace H:(if t276.size+t277.size≤9223372036854775807 then (some (t276 ++ t277)) else (none))=some r:=H
     have A9:=Aside0.mk A90
     clear A90
     by_cases c10:t276.size+t277.size≤9223372036854775807
     ·rw [if_pos c10] at H
      have c10b0:=eq_true c10
      have c10b1:decide (t276.size+t277.size≤9223372036854775807)=true:=decide_eq_true c10
      try have c10b2:(9223372036854775807<t276.size+t277.size)=False:=eq_false (Nat.not_lt.2 c10)
      obtain rfl:=Option.some.inj H
      go_wp2_with (first|((with_reducible refine gate_callee (f:=92) rfl ?_); refine goesL_ (some 19) rfl rfl Try.func92 (by kernel_rfl) rfl #[.int .i64 (wrap64 (Int.tdiv a0 10))] rfl (by (try simp only [List.map_toArray,List.map_cons,List.map_nil]); first|done|rfl|(simp only [List.length_drop,List.length_take]; rfl)) ?_; (with_reducible refine (ih kj1 (by have:=HJ1.out; omega) (wrap64 (Int.tdiv a0 10)) t276 _ A8.out).mono ?_); rintro e w' ⟨rfl,⟨nd,rfl⟩⟩; refine ⟨_,rfl,?_⟩)|((with_reducible refine gate_callee (f:=92) rfl ?_); refine goesL_ (some 23) rfl rfl Try.func92 (by kernel_rfl) rfl #[.int .i64 (wrap64 (-(Int.tmod a0 10)))] rfl (by (try simp only [List.map_toArray,List.map_cons,List.map_nil]); first|done|rfl|(simp only [List.length_drop,List.length_take]; rfl)) ?_; (with_reducible refine (ih kj1 (by have:=HJ1.out; omega) (wrap64 (-(Int.tmod a0 10))) t277 _ A9.out).mono ?_); rintro e w' ⟨rfl,⟨nd,rfl⟩⟩; refine ⟨_,rfl,?_⟩))
      go_ret
      exact ⟨by first|rfl|(simp; done)|(simp [*]; done),by repeat (first|exact Drawn0.refl _|apply Drawn0.step)⟩
     ·rw [if_neg c10] at H
      exact absurd H (by simp)
    ·rw [if_neg c7] at H
     have c7b0:decide (a0<0)=false:=decide_eq_false c7
     clear c7
     by_cases c11:a0<10
     ·rw [if_pos c11] at H
      have c11b0:decide (a0<10)=true:=decide_eq_true c11
      clear c11
      obtain rfl:=Option.some.inj H
      go_wp2
      go_ret
      exact ⟨by first|rfl|(simp; done)|(simp [*]; done),by repeat (first|exact Drawn0.refl _|apply Drawn0.step)⟩
     ·rw [if_neg c11] at H
      have c11b0:decide (a0<10)=false:=decide_eq_false c11
      clear c11
      replace H:=Option.bind_eq_some_iff.mp H
      obtain ⟨t278,A120,H⟩:=H
      replace H:(if t278.size+(Utf8.encode (wrap32 (wrap64 (48+(Int.tmod a0 10))))).size≤9223372036854775807 then (some (t278 ++ (Utf8.encode (wrap32 (wrap64 (48+(Int.tmod a0 10))))))) else (none))=some r:=H
      have A12:=Aside0.mk A120
      clear A120
      by_cases c13:t278.size+(Utf8.encode (wrap32 (wrap64 (48+(Int.tmod a0 10))))).size≤9223372036854775807
      ·rw [if_pos c13] at H
       have c13b0:=eq_true c13
       have c13b1:decide (t278.size+(Utf8.encode (wrap32 (wrap64 (48+(Int.tmod a0 10))))).size≤9223372036854775807)=true:=decide_eq_true c13
       try have c13b2:(9223372036854775807<t278.size+(Utf8.encode (wrap32 (wrap64 (48+(Int.tmod a0 10))))).size)=False:=eq_false (Nat.not_lt.2 c13)
       obtain rfl:=Option.some.inj H
       go_wp2_with (first|((with_reducible refine gate_callee (f:=92) rfl ?_); refine goesL_ (some 34) rfl rfl Try.func92 (by kernel_rfl) rfl #[.int .i64 (wrap64 (Int.tdiv a0 10))] rfl (by (try simp only [List.map_toArray,List.map_cons,List.map_nil]); first|done|rfl|(simp only [List.length_drop,List.length_take]; rfl)) ?_; (with_reducible refine (ih kj1 (by have:=HJ1.out; omega) (wrap64 (Int.tdiv a0 10)) t278 _ A12.out).mono ?_); rintro e w' ⟨rfl,⟨nd,rfl⟩⟩; refine ⟨_,rfl,?_⟩))
       go_ret
       exact ⟨by first|rfl|(simp; done)|(simp [*]; done),by repeat (first|exact Drawn0.refl _|apply Drawn0.step)⟩
      ·rw [if_neg c13] at H
       exact absurd H (by simp)
mutual
def impl_Number.j0:Nat→ByteArray→ByteArray→Bool→Option (Int × Bool)
 |0,_,_,_=>none
 |k+1,x0,x4,x14=>if x14=true then (if 1≤(x4.size:Int) then (impl_Number.j1 k x0 (x4.extract 1 x4.size)) else (none)) else (impl_Number.j1 k x0 x4)
def impl_Number.j1:Nat→ByteArray→ByteArray→Option (Int × Bool)
 |0,_,_=>none
 |k+1,x0,x4=>if x4.toList=([]:List UInt8) then (impl_Number.j2 k x0 x4 true) else (impl_Number.j2 k x0 x4 (decide ((x4.size:Int) > 13)))
def impl_Number.j2:Nat→ByteArray→ByteArray→Bool→Option (Int × Bool)
 |0,_,_,_=>none
 |k+1,x0,x4,x23=>if x23=true then (some (0,false)) else (impl_Number.l0 k x0 x4 0 (x4.size:Int) 0)
def impl_Number.l0:Nat→ByteArray→ByteArray→Int→Int→Int→Option (Int × Bool)
 |0,_,_,_,_,_=>none
 |k+1,x0,x4,x5,x25,x26=>if x26<x25 then (if 0≤x26 then (if x26<(x4.size:Int) then (if (bt x4 x26)<48 then (some (0,false)) else (if (bt x4 x26) > 57 then (some (0,false)) else (impl_Number.l0 k x0 x4 (wrap64 ((wrap64 (10*x5))+(((bt x4 x26)-48) % 256))) x25 (wrap64 (x26+1))))) else (none)) else (none)) else (if (x4.size:Int)<(x0.size:Int) then (impl_Number.j4 k x0 (wrap64 (-x5))) else (impl_Number.j4 k x0 x5))
def impl_Number.j4:Nat→ByteArray→Int→Option (Int × Bool)
 |0,_,_=>none
 |k+1,x0,x5=>(impl_from.f x5 (-1000000000000) 1000000000000).bind fun t279=>(if t279=true then ((impl_Digits.f k x5).bind fun t280=>(if t280.toList=x0.toList then (some (x5,true)) else (some (0,false)))) else (some (0,false)))
end
def impl_Number.f (k:Nat) (a0:ByteArray):Option (Int × Bool):=if a0.toList=([]:List UInt8) then (impl_Number.j0 k a0 a0 false) else (if 0<(a0.size:Int) then (impl_Number.j0 k a0 a0 ((bt a0 0) == 45)) else (none))
theorem impl_Number.mono_l:∀ k,(∀ y0 y1 y2,LeO (impl_Number.j0 k y0 y1 y2) (impl_Number.j0 (k+1) y0 y1 y2))∧(∀ y0 y1,LeO (impl_Number.j1 k y0 y1) (impl_Number.j1 (k+1) y0 y1))∧(∀ y0 y1 y2,LeO (impl_Number.j2 k y0 y1 y2) (impl_Number.j2 (k+1) y0 y1 y2))∧(∀ y0 y1 y2 y3 y4,LeO (impl_Number.l0 k y0 y1 y2 y3 y4) (impl_Number.l0 (k+1) y0 y1 y2 y3 y4))∧(∀ y0 y1,LeO (impl_Number.j4 k y0 y1) (impl_Number.j4 (k+1) y0 y1))
 |0=>⟨fun _ _ _ r h=>by simp [impl_Number.j0] at h,fun _ _ r h=>by simp [impl_Number.j1] at h,fun _ _ _ r h=>by simp [impl_Number.j2] at h,fun _ _ _ _ _ r h=>by simp [impl_Number.l0] at h,fun _ _ r h=>by simp [impl_Number.j4] at h⟩
 |k+1=>by
  obtain ⟨ih0,ih1,ih2,ih3,ih4⟩:=impl_Number.mono_l k
  refine ⟨?_,?_,?_,?_,?_⟩
  ·intro y0 y1 y2
   unfold impl_Number.j0
   repeat' first
   |(with_reducible exact ih0 _ _ _)
   |(with_reducible exact ih1 _ _)
   |(with_reducible exact ih2 _ _ _)
   |(with_reducible exact ih3 _ _ _ _ _)
   |(with_reducible exact ih4 _ _)
   |(with_reducible exact impl_Digits.mono _ _)
   |(with_reducible exact LeO.refl _)
   |(with_reducible exact LeO.none _)
   |(with_reducible refine LeO.ite ?_ ?_)
   |(with_reducible refine LeO.bind ?_ (fun _=>?_))
   |exact ih0 _ _ _
   |exact ih1 _ _
   |exact ih2 _ _ _
   |exact ih3 _ _ _ _ _
   |exact ih4 _ _
   |exact impl_Digits.mono _ _
   |exact LeO.none _
   |refine LeO.ite ?_ ?_
   |refine LeO.bind ?_ (fun _=>?_)
  ·intro y0 y1
   unfold impl_Number.j1
   repeat' first
   |(with_reducible exact ih0 _ _ _)
   |(with_reducible exact ih1 _ _)
   |(with_reducible exact ih2 _ _ _)
   |(with_reducible exact ih3 _ _ _ _ _)
   |(with_reducible exact ih4 _ _)
   |(with_reducible exact impl_Digits.mono _ _)
   |(with_reducible exact LeO.refl _)
   |(with_reducible exact LeO.none _)
   |(with_reducible refine LeO.ite ?_ ?_)
   |(with_reducible refine LeO.bind ?_ (fun _=>?_))
   |exact ih0 _ _ _
   |exact ih1 _ _
   |exact ih2 _ _ _
   |exact ih3 _ _ _ _ _
   |exact ih4 _ _
   |exact impl_Digits.mono _ _
   |exact LeO.none _
   |refine LeO.ite ?_ ?_
   |refine LeO.bind ?_ (fun _=>?_)
  ·intro y0 y1 y2
   unfold impl_Number.j2
   repeat' first
   |(with_reducible exact ih0 _ _ _)
   |(with_reducible exact ih1 _ _)
   |(with_reducible exact ih2 _ _ _)
   |(with_reducible exact ih3 _ _ _ _ _)
   |(with_reducible exact ih4 _ _)
   |(with_reducible exact impl_Digits.mono _ _)
   |(with_reducible exact LeO.refl _)
   |(with_reducible exact LeO.none _)
   |(with_reducible refine LeO.ite ?_ ?_)
   |(with_reducible refine LeO.bind ?_ (fun _=>?_))
   |exact ih0 _ _ _
   |exact ih1 _ _
   |exact ih2 _ _ _
   |exact ih3 _ _ _ _ _
   |exact ih4 _ _
   |exact impl_Digits.mono _ _
   |exact LeO.none _
   |refine LeO.ite ?_ ?_
   |refine LeO.bind ?_ (fun _=>?_)
  ·intro y0 y1 y2 y3 y4
   unfold impl_Number.l0
   repeat' first
   |(with_reducible exact ih0 _ _ _)
   |(with_reducible exact ih1 _ _)
   |(with_reducible exact ih2 _ _ _)
   |(with_reducible exact ih3 _ _ _ _ _)
   |(with_reducible exact ih4 _ _)
   |(with_reducible exact impl_Digits.mono _ _)
   |(with_reducible exact LeO.refl _)
   |(with_reducible exact LeO.none _)
   |(with_reducible refine LeO.ite ?_ ?_)
   |(with_reducible refine LeO.bind ?_ (fun _=>?_))
   |exact ih0 _ _ _
   |exact ih1 _ _
   |exact ih2 _ _ _
   |exact ih3 _ _ _ _ _
   |exact ih4 _ _
   |exact impl_Digits.mono _ _
   |exact LeO.none _
   |refine LeO.ite ?_ ?_
   |refine LeO.bind ?_ (fun _=>?_)
  ·intro y0 y1
   unfold impl_Number.j4
   repeat' first
   |(with_reducible exact ih0 _ _ _)
   |(with_reducible exact ih1 _ _)
   |(with_reducible exact ih2 _ _ _)
   |(with_reducible exact ih3 _ _ _ _ _)
   |(with_reducible exact ih4 _ _)
   |(with_reducible exact impl_Digits.mono _ _)
   |(with_reducible exact LeO.refl _)
   |(with_reducible exact LeO.none _)
   |(with_reducible refine LeO.ite ?_ ?_)
   |(with_reducible refine LeO.bind ?_ (fun _=>?_))
   |exact ih0 _ _ _
   |exact ih1 _ _
   |exact ih2 _ _ _
   |exact ih3 _ _ _ _ _
   |exact ih4 _ _
   |exact impl_Digits.mono _ _
   |exact LeO.none _
   |refine LeO.ite ?_ ?_
   |refine LeO.bind ?_ (fun _=>?_)
theorem impl_Number.mono:∀ a0 k,LeO (impl_Number.f k a0) (impl_Number.f (k+1) a0):=by
 intro a0 k
 obtain ⟨ih0,ih1,ih2,ih3,ih4⟩:=impl_Number.mono_l k
 unfold impl_Number.f
 repeat' first
   |(with_reducible exact ih0 _ _ _)
   |(with_reducible exact ih1 _ _)
   |(with_reducible exact ih2 _ _ _)
   |(with_reducible exact ih3 _ _ _ _ _)
   |(with_reducible exact ih4 _ _)
   |(with_reducible exact impl_Digits.mono _ _)
   |(with_reducible exact LeO.refl _)
   |(with_reducible exact LeO.none _)
   |(with_reducible refine LeO.ite ?_ ?_)
   |(with_reducible refine LeO.bind ?_ (fun _=>?_))
   |exact ih0 _ _ _
   |exact ih1 _ _
   |exact ih2 _ _ _
   |exact ih3 _ _ _ _ _
   |exact ih4 _ _
   |exact impl_Digits.mono _ _
   |exact LeO.none _
   |refine LeO.ite ?_ ?_
   |refine LeO.bind ?_ (fun _=>?_)
set_option maxHeartbeats 8000000 in
set_option maxRecDepth 100000 in
theorem impl_Number.calls (k:Nat) (a0:ByteArray) (r1:Int) (r2:Bool) (w:World) (h:impl_Number.f k a0=some (r1,r2)) :
  Calls Try.prog 72 #[.string a0] w fun e w'=>e=.returned (.tuple #[.int .i64 r1,.bool r2])∧Drawn0 w w':=by
 have H:(if a0.toList=([]:List UInt8) then (impl_Number.j0 k a0 a0 false) else (if 0<(a0.size:Int) then (impl_Number.j0 k a0 a0 ((bt a0 0) == 45)) else (none)))=some (r1,r2):=h
 clear h
 have HC2:=Aside0.mk H
 clear H
 go_enter Try.func72,Try.ntmps72
 go_upto_region 2 with (fail)
 go_cut [14] (fun v14 wc=>∃ (kq:Nat) (x14_1:Bool),v14=.bool x14_1∧Aside0 (impl_Number.j0 kq a0 a0 x14_1=some (r1,r2))∧Aside0 (kq≤k)∧Drawn0 w wc)
 case first =>
  have H:=HC2.out
  clear HC2
  by_cases c3:a0.toList=([]:List UInt8)
  ·rw [if_pos c3] at H
   have c3b0:(a0.toList == ([]:List UInt8))=true:=beq_iff_eq.mpr c3
   have c3b1:(a0.toList != ([]:List UInt8))=false:=bne_eq_false_iff_eq.mpr c3
   clear c3
   (first|rw [c3b0]|rw [c3b1]|(simp only [i64_w,i32_w]; rw [c3b0])|skip)
   have H':=Aside0.mk H
   clear H
   go_wp2
   go_meet
   case rel=>exact ⟨_,(false),(by first|rfl|(simp; done)|(simp [*]; done)),H',⟨by first|omega|exact Nat.le_refl _⟩,by repeat (first|exact Drawn0.refl _|apply Drawn0.step)⟩
  ·rw [if_neg c3] at H
   have c3b0:(a0.toList == ([]:List UInt8))=false:=beq_eq_false_iff_ne.mpr c3
   have c3b1:(a0.toList != ([]:List UInt8))=true:=bne_iff_ne.mpr c3
   (first|rw [c3b0]|rw [c3b1]|(simp only [i64_w,i32_w]; rw [c3b0])|skip)
   by_cases c4:0<(a0.size:Int)
   ·rw [if_pos c4] at H
    have c4b0:decide (0<(a0.size:Int))=true:=decide_eq_true c4
    have c4b1:decide (0<a0.size)=true:=decide_eq_true (by omega)
    clear c4
    have H':=Aside0.mk H
    clear H
    have p5:0≤(0:Int):=(by omega)
    have q5:0<a0.size:=(by have:(0:Int)<(a0.size:Int):=of_decide_eq_true (by first|(with_reducible assumption)|assumption); omega)
    have hx5:∀ h:0<a0.size,((a0[0]'h).toNat:Int)=bt a0 0:=bt_at a0 0
    clear p5
    have qi5:(0<(a0.size:Int))=True:=eq_true (of_decide_eq_true (by first|(with_reducible assumption)|assumption))
    replace q5:=eq_true q5
    go_wp2
    go_meet
    case rel=>exact ⟨_,(((bt a0 0) == 45)),(by first|rfl|(simp; done)|(simp [*]; done)),H',⟨by first|omega|exact Nat.le_refl _⟩,by repeat (first|exact Drawn0.refl _|apply Drawn0.step)⟩
   ·rw [if_neg c4] at H
    exact absurd H (by simp)
 case rest =>
  clear HC2
  try clear p2
  try clear c3
  try clear c3b0
  try clear c3b1
  try clear c4
  try clear c4b0
  try clear c4b1
  try clear p5
  try clear q5
  try clear hx5
  try clear qi5
  try clear p5
  try clear q5
  obtain ⟨kq,x14_1,rfl,HA,HJ1,⟨mc1,rfl⟩⟩:=hcut
  cases kq with
  |zero=>exact absurd HA.out (by simp [impl_Number.j0])
  |succ kj1 =>
   have H:=HA.out
   clear HA
   simp only [impl_Number.j0] at H
   have HC6:=Aside0.mk H
   clear H
   go_upto_if 14 with (fail)
   go_cut [4] (fun v4 wc=>∃ (kq:Nat) (x4_5:ByteArray),v4=.string x4_5∧Aside0 (impl_Number.j1 kq a0 x4_5=some (r1,r2))∧Aside0 (kq≤kj1)∧Drawn0 w wc)
   case first =>
    have H:=HC6.out
    clear HC6
    by_cases c7:x14_1=true
    ·subst c7
     have H1:(if 1≤(a0.size:Int) then (impl_Number.j1 kj1 a0 (a0.extract 1 a0.size)) else (none))=some (r1,r2):=by rw [if_pos rfl] at H; exact H
     clear H
     have H:=H1
     clear H1
     by_cases c8:1≤(a0.size:Int)
     ·rw [if_pos c8] at H
      have c8b0:=eq_true c8
      have c8b1:decide (1≤(a0.size:Int))=true:=decide_eq_true c8
      clear c8
      have H':=Aside0.mk H
      clear H
      go_wp2
      go_meet
      case rel=>exact ⟨_,(a0.extract 1 a0.size),(by first|rfl|(simp; done)|(simp [*]; done)),H',⟨by have:=HJ1.out; first|omega|exact Nat.le_refl _⟩,by repeat (first|exact Drawn0.refl _|apply Drawn0.step)⟩
     ·rw [if_neg c8] at H
      exact absurd H (by simp)
    ·replace c7:=Bool.eq_false_iff.mpr c7
     subst c7
     have H1:(impl_Number.j1 kj1 a0 a0)=some (r1,r2):=by rw [if_neg (show ¬ (false=true) by decide)] at H; exact H
     clear H
     have H:=H1
     clear H1
     have H':=Aside0.mk H
     clear H
     go_wp2
     go_meet
     case rel=>exact ⟨_,(a0),(by first|rfl|(simp; done)|(simp [*]; done)),H',⟨by have:=HJ1.out; first|omega|exact Nat.le_refl _⟩,by repeat (first|exact Drawn0.refl _|apply Drawn0.step)⟩
   case rest =>
    clear HC6
    try clear c1
    try clear p2
    try clear c3
    try clear c3b0
    try clear c3b1
    try clear c4
    try clear c4b0
    try clear c4b1
    try clear p5
    try clear q5
    try clear hx5
    try clear qi5
    try clear c7
    try clear c8
    try clear c8b0
    try clear c8b1
    try clear p2
    try clear p5
    try clear q5
    obtain ⟨kq,x4_5,rfl,HA,HJ5,⟨mc5,rfl⟩⟩:=hcut
    cases kq with
    |zero=>exact absurd HA.out (by simp [impl_Number.j1])
    |succ kj5 =>
     have H:=HA.out
     clear HA
     simp only [impl_Number.j1] at H
     have HC9:=Aside0.mk H
     clear H
     go_upto_region 4 with (fail)
     go_cut [23] (fun v23 wc=>∃ (kq:Nat) (x23_8:Bool),v23=.bool x23_8∧Aside0 (impl_Number.j2 kq a0 x4_5 x23_8=some (r1,r2))∧Aside0 (kq≤kj5)∧Drawn0 w wc)
     case first =>
      have H:=HC9.out
      clear HC9
      by_cases c10:x4_5.toList=([]:List UInt8)
      ·rw [if_pos c10] at H
       have c10b0:(x4_5.toList == ([]:List UInt8))=true:=beq_iff_eq.mpr c10
       have c10b1:(x4_5.toList != ([]:List UInt8))=false:=bne_eq_false_iff_eq.mpr c10
       clear c10
       (first|rw [c10b0]|rw [c10b1]|(simp only [i64_w,i32_w]; rw [c10b0])|skip)
       have H':=Aside0.mk H
       clear H
       go_wp2
       go_meet
       case rel=>exact ⟨_,(true),(by first|rfl|(simp; done)|(simp [*]; done)),H',⟨by have:=HJ1.out; have:=HJ5.out; first|omega|exact Nat.le_refl _⟩,by repeat (first|exact Drawn0.refl _|apply Drawn0.step)⟩
      ·rw [if_neg c10] at H
       have c10b0:(x4_5.toList == ([]:List UInt8))=false:=beq_eq_false_iff_ne.mpr c10
       have c10b1:(x4_5.toList != ([]:List UInt8))=true:=bne_iff_ne.mpr c10
       (first|rw [c10b0]|rw [c10b1]|(simp only [i64_w,i32_w]; rw [c10b0])|skip)
       have H':=Aside0.mk H
       clear H
       go_wp2
       go_meet
       case rel=>exact ⟨_,(decide ((x4_5.size:Int) > 13)),(by first|rfl|(simp; done)|(simp [*]; done)),H',⟨by have:=HJ1.out; have:=HJ5.out; first|omega|exact Nat.le_refl _⟩,by repeat (first|exact Drawn0.refl _|apply Drawn0.step)⟩
     case rest =>
      clear HC9
      try clear c1
      try clear p2
      try clear c3
      try clear c3b0
      try clear c3b1
      try clear c4
      try clear c4b0
      try clear c4b1
      try clear c5
      try clear p5
      try clear q5
      try clear hx5
      try clear qi5
      try clear c7
      try clear c8
      try clear c8b0
      try clear c8b1
      try clear c10
      try clear c10b0
      try clear c10b1
      try clear p2
      try clear p5
      try clear q5
      obtain ⟨kq,x23_8,rfl,HA,HJ8,⟨mc8,rfl⟩⟩:=hcut
      cases kq with
      |zero=>exact absurd HA.out (by simp [impl_Number.j2])
      |succ kj8 =>
       have H:=HA.out
       clear HA
       simp only [impl_Number.j2] at H
       by_cases c11:x23_8=true
       ·subst c11
        have H1:(some (0,false))=some (r1,r2):=by rw [if_pos rfl] at H; exact H
        clear H
        have H:=H1
        clear H1
        simp only [Option.some.injEq,Prod.mk.injEq] at H
        obtain ⟨rfl,rfl⟩:=H
        go_wp2
        go_ret2
        exact ⟨by first|rfl|(simp; done)|(simp [*]; done),by repeat (first|exact Drawn0.refl _|apply Drawn0.step)⟩
       ·replace c11:=Bool.eq_false_iff.mpr c11
        subst c11
        have H1:(impl_Number.l0 kj8 a0 x4_5 0 (x4_5.size:Int) 0)=some (r1,r2):=by rw [if_neg (show ¬ (false=true) by decide)] at H; exact H
        clear H
        have H:=H1
        clear H1
        have H':=Aside0.mk H
        clear H
        go_wp2
        go_loopg [5,26] kj8 (fun kq v5 v26 w'=>∃ (x5_4:Int) (x26_4:Int),v5=.int .i64 x5_4∧v26=.int .i64 x26_4∧Aside0 (impl_Number.l0 kq a0 x4_5 x5_4 (x4_5.size:Int) x26_4=some (r1,r2))∧Aside0 (kq≤kj8)∧Drawn0 w w')
        case atStart=>exact ⟨(0),(0),(by first|rfl|(simp; done)|(simp [*]; done)),(by first|rfl|(simp; done)|(simp [*]; done)),H',⟨Nat.le_refl _⟩,by repeat (first|exact Drawn0.refl _|apply Drawn0.step)⟩
        case round =>
         clear H'
         try clear c1
         try clear p2
         try clear c3
         try clear c3b0
         try clear c3b1
         try clear c4
         try clear c4b0
         try clear c4b1
         try clear c5
         try clear p5
         try clear q5
         try clear hx5
         try clear qi5
         try clear c7
         try clear c8
         try clear c8b0
         try clear c8b1
         try clear c10
         try clear c10b0
         try clear c10b1
         try clear c11
         try clear p2
         try clear p5
         try clear q5
         obtain ⟨x5_4,x26_4,rfl,rfl,HA,HK4,⟨m4,rfl⟩⟩:=hrel
         cases gk with
         |zero=>exact absurd HA.out (by simp [impl_Number.l0])
         |succ k4 =>
          have H:=HA.out
          clear HA
          simp only [impl_Number.l0] at H
          by_cases c12:x26_4<(x4_5.size:Int)
          ·rw [if_pos c12] at H
           have c12b0:decide (x26_4<(x4_5.size:Int))=true:=decide_eq_true c12
           clear c12
           by_cases c13:0≤x26_4
           ·rw [if_pos c13] at H
            have c13b0:decide (0≤x26_4)=true:=decide_eq_true c13
            clear c13
            by_cases c14:x26_4<(x4_5.size:Int)
            ·rw [if_pos c14] at H
             have c14b0:decide (x26_4<(x4_5.size:Int))=true:=decide_eq_true c14
             clear c14
             by_cases c16:(bt x4_5 x26_4)<48
             ·rw [if_pos c16] at H
              have c16b0:decide ((bt x4_5 x26_4)<48)=true:=decide_eq_true c16
              clear c16
              simp only [Option.some.injEq,Prod.mk.injEq] at H
              obtain ⟨rfl,rfl⟩:=H
              have p15:0≤(x26_4:Int):=of_decide_eq_true (by first|(with_reducible assumption)|assumption)
              have q15:x26_4<(x4_5.size:Int):=of_decide_eq_true (by first|(with_reducible assumption)|assumption)
              have hx15:=bt_at x4_5 x26_4
              replace p15:=eq_true p15
              replace q15:=eq_true q15
              go_wp2
              go_ret2
              exact ⟨by first|rfl|(simp; done)|(simp [*]; done),by repeat (first|exact Drawn0.refl _|apply Drawn0.step)⟩
             ·rw [if_neg c16] at H
              have c16b0:decide ((bt x4_5 x26_4)<48)=false:=decide_eq_false c16
              clear c16
              by_cases c18:(bt x4_5 x26_4) > 57
              ·rw [if_pos c18] at H
               have c18b0:decide (57<(bt x4_5 x26_4))=true:=decide_eq_true c18
               clear c18
               simp only [Option.some.injEq,Prod.mk.injEq] at H
               obtain ⟨rfl,rfl⟩:=H
               have p15:0≤(x26_4:Int):=of_decide_eq_true (by first|(with_reducible assumption)|assumption)
               have q15:x26_4<(x4_5.size:Int):=of_decide_eq_true (by first|(with_reducible assumption)|assumption)
               have hx15:=bt_at x4_5 x26_4
               replace p15:=eq_true p15
               replace q15:=eq_true q15
               have p17:0≤(x26_4:Int):=of_decide_eq_true (by first|(with_reducible assumption)|assumption)
               have q17:x26_4<(x4_5.size:Int):=of_decide_eq_true (by first|(with_reducible assumption)|assumption)
               have hx17:=bt_at x4_5 x26_4
               replace p17:=eq_true p17
               replace q17:=eq_true q17
               go_wp2
               go_ret2
               exact ⟨by first|rfl|(simp; done)|(simp [*]; done),by repeat (first|exact Drawn0.refl _|apply Drawn0.step)⟩
              ·rw [if_neg c18] at H
               have c18b0:decide (57<(bt x4_5 x26_4))=false:=decide_eq_false c18
               clear c18
               have H':=Aside0.mk H
               clear H
               have p15:0≤(x26_4:Int):=of_decide_eq_true (by first|(with_reducible assumption)|assumption)
               have q15:x26_4<(x4_5.size:Int):=of_decide_eq_true (by first|(with_reducible assumption)|assumption)
               have hx15:=bt_at x4_5 x26_4
               replace p15:=eq_true p15
               replace q15:=eq_true q15
               have p17:0≤(x26_4:Int):=of_decide_eq_true (by first|(with_reducible assumption)|assumption)
               have q17:x26_4<(x4_5.size:Int):=of_decide_eq_true (by first|(with_reducible assumption)|assumption)
               have hx17:=bt_at x4_5 x26_4
               replace p17:=eq_true p17
               replace q17:=eq_true q17
               have p19:0≤(x26_4:Int):=of_decide_eq_true (by first|(with_reducible assumption)|assumption)
               have q19:x26_4<(x4_5.size:Int):=of_decide_eq_true (by first|(with_reducible assumption)|assumption)
               have hx19:=bt_at x4_5 x26_4
               replace p19:=eq_true p19
               replace q19:=eq_true q19
               go_wp2
               go_roundg k4
               case measure=>have:=HJ1.out; have:=HJ5.out; have:=HJ8.out; have:=HK4.out; omega
               case rel=>exact ⟨(wrap64 ((wrap64 (10*x5_4))+(((bt x4_5 x26_4)-48) % 256))),(wrap64 (x26_4+1)),(by first|rfl|(simp; done)|(simp [*]; done)),(by first|rfl|(simp; done)|(simp [*]; done)),H',⟨by have:=HJ1.out; have:=HJ5.out; have:=HJ8.out; have:=HK4.out; omega⟩,by repeat (first|exact Drawn0.refl _|apply Drawn0.step)⟩
            ·rw [if_neg c14] at H
             exact absurd H (by simp)
           ·rw [if_neg c13] at H
            exact absurd H (by simp)
          ·rw [if_neg c12] at H
           have c12b0:decide (x26_4<(x4_5.size:Int))=false:=decide_eq_false c12
           clear c12
           have HC20:=Aside0.mk H
           clear H
           go_upto_if 52 with (fail)
           go_cut [5] (fun v5 wc=>∃ (kq:Nat) (x5_19:Int),v5=.int .i64 x5_19∧Aside0 (impl_Number.j4 kq a0 x5_19=some (r1,r2))∧Aside0 (kq≤k4)∧Drawn0 w wc)
           case first =>
            have H:=HC20.out
            clear HC20
            by_cases c21:(x4_5.size:Int)<(a0.size:Int)
            ·rw [if_pos c21] at H
             have c21b0:decide ((x4_5.size:Int)<(a0.size:Int))=true:=decide_eq_true c21
             have c21b1:decide (x4_5.size<a0.size)=true:=decide_eq_true (Int.ofNat_lt.mp c21)
             clear c21
             (first|rw [c21b0]|rw [c21b1]|(simp only [i64_w,i32_w]; rw [c21b0])|skip)
             have H':=Aside0.mk H
             clear H
             go_wp2
             go_meet
             case rel=>exact ⟨_,(wrap64 (-x5_4)),(by first|rfl|(simp; done)|(simp [*]; done)),H',⟨by have:=HJ1.out; have:=HJ5.out; have:=HJ8.out; have:=HK4.out; first|omega|exact Nat.le_refl _⟩,by repeat (first|exact Drawn0.refl _|apply Drawn0.step)⟩
            ·rw [if_neg c21] at H
             have c21b0:decide ((x4_5.size:Int)<(a0.size:Int))=false:=decide_eq_false c21
             have c21b1:decide (x4_5.size<a0.size)=false:=decide_eq_false (fun h=>c21 (Int.ofNat_lt.mpr h))
             clear c21
             (first|rw [c21b0]|rw [c21b1]|(simp only [i64_w,i32_w]; rw [c21b0])|skip)
             have H':=Aside0.mk H
             clear H
             go_wp2
             go_meet
             case rel=>exact ⟨_,(x5_4),(by first|rfl|(simp; done)|(simp [*]; done)),H',⟨by have:=HJ1.out; have:=HJ5.out; have:=HJ8.out; have:=HK4.out; first|omega|exact Nat.le_refl _⟩,by repeat (first|exact Drawn0.refl _|apply Drawn0.step)⟩
           case rest =>
            clear HC20
            try clear c1
            try clear p1
            try clear q1
            try clear hx1
            try clear c2
            try clear p2
            try clear c3
            try clear c3b0
            try clear c3b1
            try clear c4
            try clear c4b0
            try clear c4b1
            try clear c5
            try clear p5
            try clear q5
            try clear hx5
            try clear qi5
            try clear p6
            try clear c7
            try clear c8
            try clear c8b0
            try clear c8b1
            try clear c10
            try clear c10b0
            try clear c10b1
            try clear c11
            try clear c12
            try clear c12b0
            try clear c13
            try clear c13b0
            try clear c14
            try clear c14b0
            try clear p15
            try clear q15
            try clear hx15
            try clear c16
            try clear c16b0
            try clear p17
            try clear q17
            try clear hx17
            try clear c18
            try clear c18b0
            try clear p19
            try clear q19
            try clear hx19
            try clear c21
            try clear c21b0
            try clear c21b1
            try clear p15
            try clear p17
            try clear p19
            try clear p2
            try clear p5
            try clear q15
            try clear q17
            try clear q19
            try clear q5
            obtain ⟨kq,x5_19,rfl,HA,HJ19,⟨mc19,rfl⟩⟩:=hcut
            cases kq with
            |zero=>exact absurd HA.out (by simp [impl_Number.j4])
            |succ kj19 =>
             have H:=HA.out
             clear HA
             simp only [impl_Number.j4] at H
             replace H:=Option.bind_eq_some_iff.mp H
             obtain ⟨t279,A220,H⟩:=H
             replace H:(if t279=true then ((impl_Digits.f kj19 x5_19).bind fun t280=>(if t280.toList=a0.toList then (some (x5_19,true)) else (some (0,false)))) else (some (0,false)))=some (r1,r2):=H
             have A22:=Aside0.mk A220
             clear A220
             by_cases c23:t279=true
             ·subst c23
              have H1:((impl_Digits.f kj19 x5_19).bind fun t280=>(if t280.toList=a0.toList then (some (x5_19,true)) else (some (0,false))))=some (r1,r2):=by rw [if_pos rfl] at H; exact H
              clear H
              have H:=H1
              clear H1
              replace H:=Option.bind_eq_some_iff.mp H
              obtain ⟨t280,A240,H⟩:=H
              replace H:(if t280.toList=a0.toList then (some (x5_19,true)) else (some (0,false)))=some (r1,r2):=H
              have A24:=Aside0.mk A240
              clear A240
              have HC25:=Aside0.mk H
              clear H
              go_upto_if 63 with (first|((with_reducible refine gate_callee (f:=55) rfl ?_); refine goesL_ (some 56) rfl rfl Try.func55 (by kernel_rfl) rfl #[.int .i64 x5_19,.int .i64 (-1000000000000),.int .i64 1000000000000] rfl (by (try simp only [List.map_toArray,List.map_cons,List.map_nil]); first|done|rfl|(simp only [List.length_drop,List.length_take]; rfl)) ?_; (with_reducible refine (impl_from.calls x5_19 (-1000000000000) 1000000000000 true _ A22.out).mono ?_); rintro e w' ⟨rfl,⟨nd,rfl⟩⟩; refine ⟨_,rfl,?_⟩)|(go_at_call 92; (with_reducible refine (impl_Digits.calls kj19 x5_19 t280 _ A24.out).mono ?_); rintro e w' ⟨rfl,⟨nd,rfl⟩⟩))
              (try simp only [Act.put,List.setIfInBounds_toArray,List.set_cons_zero,List.set_cons_succ])
              have H:=HC25.out
              clear HC25
              by_cases c26:t280.toList=a0.toList
              ·rw [if_pos c26] at H
               have c26b0:(t280.toList == a0.toList)=true:=beq_iff_eq.mpr c26
               have c26b1:(t280.toList != a0.toList)=false:=bne_eq_false_iff_eq.mpr c26
               clear c26
               (first|rw [c26b0]|rw [c26b1]|(simp only [i64_w,i32_w]; rw [c26b0])|skip)
               simp only [Option.some.injEq,Prod.mk.injEq] at H
               obtain ⟨rfl,rfl⟩:=H
               go_wp2
               go_ret2
               exact ⟨by first|rfl|(simp; done)|(simp [*]; done),by repeat (first|exact Drawn0.refl _|apply Drawn0.step)⟩
              ·rw [if_neg c26] at H
               have c26b0:(t280.toList == a0.toList)=false:=beq_eq_false_iff_ne.mpr c26
               have c26b1:(t280.toList != a0.toList)=true:=bne_iff_ne.mpr c26
               (first|rw [c26b0]|rw [c26b1]|(simp only [i64_w,i32_w]; rw [c26b0])|skip)
               simp only [Option.some.injEq,Prod.mk.injEq] at H
               obtain ⟨rfl,rfl⟩:=H
               go_wp2
               go_ret2
               exact ⟨by first|rfl|(simp; done)|(simp [*]; done),by repeat (first|exact Drawn0.refl _|apply Drawn0.step)⟩
             ·replace c23:=Bool.eq_false_iff.mpr c23
              subst c23
              have H1:(some (0,false))=some (r1,r2):=by rw [if_neg (show ¬ (false=true) by decide)] at H; exact H
              clear H
              have H:=H1
              clear H1
              simp only [Option.some.injEq,Prod.mk.injEq] at H
              obtain ⟨rfl,rfl⟩:=H
              go_wp2_with (first|((with_reducible refine gate_callee (f:=55) rfl ?_); refine goesL_ (some 56) rfl rfl Try.func55 (by kernel_rfl) rfl #[.int .i64 x5_19,.int .i64 (-1000000000000),.int .i64 1000000000000] rfl (by (try simp only [List.map_toArray,List.map_cons,List.map_nil]); first|done|rfl|(simp only [List.length_drop,List.length_take]; rfl)) ?_; (with_reducible refine (impl_from.calls x5_19 (-1000000000000) 1000000000000 false _ A22.out).mono ?_); rintro e w' ⟨rfl,⟨nd,rfl⟩⟩; refine ⟨_,rfl,?_⟩))
              go_ret2
              exact ⟨by first|rfl|(simp; done)|(simp [*]; done),by repeat (first|exact Drawn0.refl _|apply Drawn0.step)⟩
def impl_times.f (k:Nat) (a0:ByteArray) (a1:Int) (a2:Int):Option (Int × Bool):=(impl_Number.f k a0).bind fun bt281=>(if bt281.2=true then (if bt281.1<0 then (some (0,false)) else (if a1=0 then (none) else (if bt281.1 > (wrap64 (Int.tdiv a2 a1)) then (some (0,false)) else (some (wrap64 (bt281.1*a1),true))))) else (some (0,false)))
theorem impl_times.mono:∀ a0 a1 a2 k,LeO (impl_times.f k a0 a1 a2) (impl_times.f (k+1) a0 a1 a2):=by
 intro a0 a1 a2 k
 unfold impl_times.f
 repeat' first
   |(with_reducible exact impl_Number.mono _ _)
   |(with_reducible exact LeO.refl _)
   |(with_reducible exact LeO.none _)
   |(with_reducible refine LeO.ite ?_ ?_)
   |(with_reducible refine LeO.bind ?_ (fun _=>?_))
   |exact impl_Number.mono _ _
   |exact LeO.none _
   |refine LeO.ite ?_ ?_
   |refine LeO.bind ?_ (fun _=>?_)
set_option maxHeartbeats 8000000 in
set_option maxRecDepth 100000 in
theorem impl_times.calls (k:Nat) (a0:ByteArray) (a1:Int) (a2:Int) (r1:Int) (r2:Bool) (w:World) (h:impl_times.f k a0 a1 a2=some (r1,r2)) :
  Calls Try.prog 56 #[.string a0,.int .i64 a1,.int .i64 a2] w fun e w'=>e=.returned (.tuple #[.int .i64 r1,.bool r2])∧Drawn0 w w':=by
 have H:((impl_Number.f k a0).bind fun bt281=>(if bt281.2=true then (if bt281.1<0 then (some (0,false)) else (if a1=0 then (none) else (if bt281.1 > (wrap64 (Int.tdiv a2 a1)) then (some (0,false)) else (some (wrap64 (bt281.1*a1),true))))) else (some (0,false))))=some (r1,r2):=h
 clear h
 replace H:=Option.bind_eq_some_iff.mp H
 obtain ⟨⟨t281,t282⟩,A40,H⟩:=H
 replace H:(if t282=true then (if t281<0 then (some (0,false)) else (if a1=0 then (none) else (if t281 > (wrap64 (Int.tdiv a2 a1)) then (some (0,false)) else (some (wrap64 (t281*a1),true))))) else (some (0,false)))=some (r1,r2):=H
 have A4:=Aside0.mk A40
 clear A40
 by_cases c5:t282=true
 ·subst c5
  have H1:(if t281<0 then (some (0,false)) else (if a1=0 then (none) else (if t281 > (wrap64 (Int.tdiv a2 a1)) then (some (0,false)) else (some (wrap64 (t281*a1),true)))))=some (r1,r2):=by rw [if_pos rfl] at H; exact H
  clear H
  have H:=H1
  clear H1
  by_cases c6:t281<0
  ·rw [if_pos c6] at H
   have c6b0:decide (t281<0)=true:=decide_eq_true c6
   clear c6
   simp only [Option.some.injEq,Prod.mk.injEq] at H
   obtain ⟨rfl,rfl⟩:=H
   go_enter Try.func56,Try.ntmps56
   go_wp2_with (first|((with_reducible refine gate_callee (f:=72) rfl ?_); refine goesL_ (some 12) rfl rfl Try.func72 (by kernel_rfl) rfl #[.string a0] rfl (by (try simp only [List.map_toArray,List.map_cons,List.map_nil]); first|done|rfl|(simp only [List.length_drop,List.length_take]; rfl)) ?_; (with_reducible refine (impl_Number.calls k a0 t281 true _ A4.out).mono ?_); rintro e w' ⟨rfl,⟨nd,rfl⟩⟩; refine ⟨_,rfl,?_⟩))
   go_ret2
   exact ⟨by first|rfl|(simp; done)|(simp [*]; done),by repeat (first|exact Drawn0.refl _|apply Drawn0.step)⟩
  ·rw [if_neg c6] at H
   have c6b0:decide (t281<0)=false:=decide_eq_false c6
   clear c6
   by_cases c7:a1=0
   ·rw [if_pos c7] at H
    exact absurd H (by simp)
   ·rw [if_neg c7] at H
    have c7b0:(a1 == 0)=false:=beq_eq_false_iff_ne.mpr c7
    have c7b1:(a1 != 0)=true:=bne_iff_ne.mpr c7
    have HC8:=Aside0.mk H
    clear H
    go_enter Try.func56,Try.ntmps56
    go_upto_if 27 with (first|((with_reducible refine gate_callee (f:=72) rfl ?_); refine goesL_ (some 12) rfl rfl Try.func72 (by kernel_rfl) rfl #[.string a0] rfl (by (try simp only [List.map_toArray,List.map_cons,List.map_nil]); first|done|rfl|(simp only [List.length_drop,List.length_take]; rfl)) ?_; (with_reducible refine (impl_Number.calls k a0 t281 true _ A4.out).mono ?_); rintro e w' ⟨rfl,⟨nd,rfl⟩⟩; refine ⟨_,rfl,?_⟩))
    (try simp only [Act.put,List.setIfInBounds_toArray,List.set_cons_zero,List.set_cons_succ])
    have H:=HC8.out
    clear HC8
    by_cases c9:t281 > (wrap64 (Int.tdiv a2 a1))
    ·rw [if_pos c9] at H
     have c9b0:decide ((wrap64 (Int.tdiv a2 a1))<t281)=true:=decide_eq_true c9
     clear c9
     (first|rw [c9b0]|(simp only [i64_w,i32_w]; rw [c9b0])|skip)
     simp only [Option.some.injEq,Prod.mk.injEq] at H
     obtain ⟨rfl,rfl⟩:=H
     go_wp2
     go_ret2
     exact ⟨by first|rfl|(simp; done)|(simp [*]; done),by repeat (first|exact Drawn0.refl _|apply Drawn0.step)⟩
    ·rw [if_neg c9] at H
     have c9b0:decide ((wrap64 (Int.tdiv a2 a1))<t281)=false:=decide_eq_false c9
     clear c9
     (first|rw [c9b0]|(simp only [i64_w,i32_w]; rw [c9b0])|skip)
     simp only [Option.some.injEq,Prod.mk.injEq] at H
     obtain ⟨rfl,rfl⟩:=H
     go_wp2
     go_ret2
     exact ⟨by first|rfl|(simp; done)|(simp [*]; done),by repeat (first|exact Drawn0.refl _|apply Drawn0.step)⟩
 ·replace c5:=Bool.eq_false_iff.mpr c5
  subst c5
  have H1:(some (0,false))=some (r1,r2):=by rw [if_neg (show ¬ (false=true) by decide)] at H; exact H
  clear H
  have H:=H1
  clear H1
  simp only [Option.some.injEq,Prod.mk.injEq] at H
  obtain ⟨rfl,rfl⟩:=H
  go_enter Try.func56,Try.ntmps56
  go_wp2_with (first|((with_reducible refine gate_callee (f:=72) rfl ?_); refine goesL_ (some 12) rfl rfl Try.func72 (by kernel_rfl) rfl #[.string a0] rfl (by (try simp only [List.map_toArray,List.map_cons,List.map_nil]); first|done|rfl|(simp only [List.length_drop,List.length_take]; rfl)) ?_; (with_reducible refine (impl_Number.calls k a0 t281 false _ A4.out).mono ?_); rintro e w' ⟨rfl,⟨nd,rfl⟩⟩; refine ⟨_,rfl,?_⟩))
  go_ret2
  exact ⟨by first|rfl|(simp; done)|(simp [*]; done),by repeat (first|exact Drawn0.refl _|apply Drawn0.step)⟩
def impl_SpanOf.f (k:Nat) (a0:ByteArray):Option (Int × Bool):=if a0.toList=([]:List UInt8) then (some (0,false)) else (if 0≤(wrap64 ((a0.size:Int)-1)) then (if (wrap64 ((a0.size:Int)-1))≤(a0.size:Int) then (if (wrap64 ((a0.size:Int)-1))<(a0.size:Int) then (if (bt a0 (wrap64 ((a0.size:Int)-1)))=104 then ((impl_times.f k (a0.extract 0 ((wrap64 ((a0.size:Int)-1)):Int).toNat) 3600 1000000).bind fun bt283=>(some (bt283.1,bt283.2))) else (if (bt a0 (wrap64 ((a0.size:Int)-1)))=109 then ((impl_times.f k (a0.extract 0 ((wrap64 ((a0.size:Int)-1)):Int).toNat) 60 1000000).bind fun bt285=>(some (bt285.1,bt285.2))) else (if (bt a0 (wrap64 ((a0.size:Int)-1)))=115 then ((impl_times.f k (a0.extract 0 ((wrap64 ((a0.size:Int)-1)):Int).toNat) 1 1000000).bind fun bt287=>(some (bt287.1,bt287.2))) else (some (0,false))))) else (none)) else (none)) else (none))
theorem impl_SpanOf.mono:∀ a0 k,LeO (impl_SpanOf.f k a0) (impl_SpanOf.f (k+1) a0):=by
 intro a0 k
 unfold impl_SpanOf.f
 repeat' first
   |(with_reducible exact impl_times.mono _ _ _ _)
   |(with_reducible exact LeO.refl _)
   |(with_reducible exact LeO.none _)
   |(with_reducible refine LeO.ite ?_ ?_)
   |(with_reducible refine LeO.bind ?_ (fun _=>?_))
   |exact impl_times.mono _ _ _ _
   |exact LeO.none _
   |refine LeO.ite ?_ ?_
   |refine LeO.bind ?_ (fun _=>?_)
set_option maxHeartbeats 8000000 in
set_option maxRecDepth 100000 in
theorem impl_SpanOf.calls (k:Nat) (a0:ByteArray) (r1:Int) (r2:Bool) (w:World) (h:impl_SpanOf.f k a0=some (r1,r2)) :
  Calls Try.prog 32 #[.string a0] w fun e w'=>e=.returned (.tuple #[.int .i64 r1,.bool r2])∧Drawn0 w w':=by
 have H:(if a0.toList=([]:List UInt8) then (some (0,false)) else (if 0≤(wrap64 ((a0.size:Int)-1)) then (if (wrap64 ((a0.size:Int)-1))≤(a0.size:Int) then (if (wrap64 ((a0.size:Int)-1))<(a0.size:Int) then (if (bt a0 (wrap64 ((a0.size:Int)-1)))=104 then ((impl_times.f k (a0.extract 0 ((wrap64 ((a0.size:Int)-1)):Int).toNat) 3600 1000000).bind fun bt283=>(some (bt283.1,bt283.2))) else (if (bt a0 (wrap64 ((a0.size:Int)-1)))=109 then ((impl_times.f k (a0.extract 0 ((wrap64 ((a0.size:Int)-1)):Int).toNat) 60 1000000).bind fun bt285=>(some (bt285.1,bt285.2))) else (if (bt a0 (wrap64 ((a0.size:Int)-1)))=115 then ((impl_times.f k (a0.extract 0 ((wrap64 ((a0.size:Int)-1)):Int).toNat) 1 1000000).bind fun bt287=>(some (bt287.1,bt287.2))) else (some (0,false))))) else (none)) else (none)) else (none)))=some (r1,r2):=h
 clear h
 by_cases c2:a0.toList=([]:List UInt8)
 ·rw [if_pos c2] at H
  have c2b0:(a0.toList == ([]:List UInt8))=true:=beq_iff_eq.mpr c2
  have c2b1:(a0.toList != ([]:List UInt8))=false:=bne_eq_false_iff_eq.mpr c2
  clear c2
  simp only [Option.some.injEq,Prod.mk.injEq] at H
  obtain ⟨rfl,rfl⟩:=H
  go_enter Try.func32,Try.ntmps32
  go_wp2
  go_ret2
  exact ⟨by first|rfl|(simp; done)|(simp [*]; done),by repeat (first|exact Drawn0.refl _|apply Drawn0.step)⟩
 ·rw [if_neg c2] at H
  have c2b0:(a0.toList == ([]:List UInt8))=false:=beq_eq_false_iff_ne.mpr c2
  have c2b1:(a0.toList != ([]:List UInt8))=true:=bne_iff_ne.mpr c2
  obtain ⟨ji3,hji3⟩:∃ j_:Int,(wrap64 ((a0.size:Int)-1))=j_:=⟨_,rfl⟩
  replace H:(if 0≤(ji3) then (if (ji3)≤(a0.size:Int) then (if (ji3)<(a0.size:Int) then (if (bt a0 (ji3))=104 then ((impl_times.f k (a0.extract 0 ((ji3):Int).toNat) 3600 1000000).bind fun bt283=>(some (bt283.1,bt283.2))) else (if (bt a0 (ji3))=109 then ((impl_times.f k (a0.extract 0 ((ji3):Int).toNat) 60 1000000).bind fun bt285=>(some (bt285.1,bt285.2))) else (if (bt a0 (ji3))=115 then ((impl_times.f k (a0.extract 0 ((ji3):Int).toNat) 1 1000000).bind fun bt287=>(some (bt287.1,bt287.2))) else (some (0,false))))) else (none)) else (none)) else (none))=some (r1,r2):=by first|(rw [hji3] at H; exact H)|(simp only [hji3] at H ⊢; exact H)
  have hji3w:(IntKind.i64.wrap ((a0.size:Int)-1))=ji3:=(i64_w _).trans hji3
  by_cases c4:0≤(ji3)
  ·rw [if_pos c4] at H
   have c4b0:=eq_true c4
   have c4b1:decide (0≤(ji3))=true:=decide_eq_true c4
   clear c4
   by_cases c5:(ji3)≤(a0.size:Int)
   ·rw [if_pos c5] at H
    have c5b0:=eq_true c5
    have c5b1:decide ((ji3)≤(a0.size:Int))=true:=decide_eq_true c5
    clear c5
    by_cases c6:(ji3)<(a0.size:Int)
    ·rw [if_pos c6] at H
     have c6b0:decide ((ji3)<(a0.size:Int))=true:=decide_eq_true c6
     clear c6
     by_cases c8:(bt a0 (ji3))=104
     ·rw [if_pos c8] at H
      have c8b0:((bt a0 (ji3)) == 104)=true:=beq_iff_eq.mpr c8
      have c8b1:((bt a0 (ji3)) != 104)=false:=bne_eq_false_iff_eq.mpr c8
      clear c8
      replace H:=Option.bind_eq_some_iff.mp H
      obtain ⟨⟨t283,t284⟩,A90,H⟩:=H
      replace H:(some (t283,t284))=some (r1,r2):=H
      have A9:=Aside0.mk A90
      clear A90
      simp only [Option.some.injEq,Prod.mk.injEq] at H
      obtain ⟨rfl,rfl⟩:=H
      have p7:0≤((ji3):Int):=of_decide_eq_true (by first|(with_reducible assumption)|assumption)
      have q7:(ji3)<(a0.size:Int):=of_decide_eq_true (by first|(with_reducible assumption)|assumption)
      have hx7:=bt_at a0 (ji3)
      replace p7:=eq_true p7
      replace q7:=eq_true q7
      go_enter Try.func32,Try.ntmps32
      go_wp2_with (first|((with_reducible refine gate_callee (f:=56) rfl ?_); refine goesL_ (some 20) rfl rfl Try.func56 (by kernel_rfl) rfl #[.string (a0.extract 0 ((ji3):Int).toNat),.int .i64 3600,.int .i64 1000000] rfl (by (try simp only [List.map_toArray,List.map_cons,List.map_nil]); first|done|(simp only [hji3]; rfl)|rfl|(simp only [List.length_drop,List.length_take]; rfl)) ?_; (with_reducible refine (impl_times.calls k (a0.extract 0 ((ji3):Int).toNat) 3600 1000000 t283 t284 _ A9.out).mono ?_); rintro e w' ⟨rfl,⟨nd,rfl⟩⟩; refine ⟨_,rfl,?_⟩))
      go_ret2
      exact ⟨by first|rfl|(simp; done)|(simp only [← hji3]<;>(first|rfl|simp))|(simp [*]; done),by repeat (first|exact Drawn0.refl _|apply Drawn0.step)⟩
     ·rw [if_neg c8] at H
      have c8b0:((bt a0 (ji3)) == 104)=false:=beq_eq_false_iff_ne.mpr c8
      have c8b1:((bt a0 (ji3)) != 104)=true:=bne_iff_ne.mpr c8
      by_cases c10:(bt a0 (ji3))=109
      ·rw [if_pos c10] at H
       have c10b0:((bt a0 (ji3)) == 109)=true:=beq_iff_eq.mpr c10
       have c10b1:((bt a0 (ji3)) != 109)=false:=bne_eq_false_iff_eq.mpr c10
       clear c10
       replace H:=Option.bind_eq_some_iff.mp H
       obtain ⟨⟨t285,t286⟩,A110,H⟩:=H
       replace H:(some (t285,t286))=some (r1,r2):=H
       have A11:=Aside0.mk A110
       clear A110
       simp only [Option.some.injEq,Prod.mk.injEq] at H
       obtain ⟨rfl,rfl⟩:=H
       have p7:0≤((ji3):Int):=of_decide_eq_true (by first|(with_reducible assumption)|assumption)
       have q7:(ji3)<(a0.size:Int):=of_decide_eq_true (by first|(with_reducible assumption)|assumption)
       have hx7:=bt_at a0 (ji3)
       replace p7:=eq_true p7
       replace q7:=eq_true q7
       go_enter Try.func32,Try.ntmps32
       go_wp2_with (first|((with_reducible refine gate_callee (f:=56) rfl ?_); refine goesL_ (some 26) rfl rfl Try.func56 (by kernel_rfl) rfl #[.string (a0.extract 0 ((ji3):Int).toNat),.int .i64 60,.int .i64 1000000] rfl (by (try simp only [List.map_toArray,List.map_cons,List.map_nil]); first|done|(simp only [hji3]; rfl)|rfl|(simp only [List.length_drop,List.length_take]; rfl)) ?_; (with_reducible refine (impl_times.calls k (a0.extract 0 ((ji3):Int).toNat) 60 1000000 t285 t286 _ A11.out).mono ?_); rintro e w' ⟨rfl,⟨nd,rfl⟩⟩; refine ⟨_,rfl,?_⟩))
       go_ret2
       exact ⟨by first|rfl|(simp; done)|(simp only [← hji3]<;>(first|rfl|simp))|(simp [*]; done),by repeat (first|exact Drawn0.refl _|apply Drawn0.step)⟩
      ·rw [if_neg c10] at H
       have c10b0:((bt a0 (ji3)) == 109)=false:=beq_eq_false_iff_ne.mpr c10
       have c10b1:((bt a0 (ji3)) != 109)=true:=bne_iff_ne.mpr c10
       by_cases c12:(bt a0 (ji3))=115
       ·rw [if_pos c12] at H
        have c12b0:((bt a0 (ji3)) == 115)=true:=beq_iff_eq.mpr c12
        have c12b1:((bt a0 (ji3)) != 115)=false:=bne_eq_false_iff_eq.mpr c12
        clear c12
        replace H:=Option.bind_eq_some_iff.mp H
        obtain ⟨⟨t287,t288⟩,A130,H⟩:=H
        replace H:(some (t287,t288))=some (r1,r2):=H
        have A13:=Aside0.mk A130
        clear A130
        simp only [Option.some.injEq,Prod.mk.injEq] at H
        obtain ⟨rfl,rfl⟩:=H
        have p7:0≤((ji3):Int):=of_decide_eq_true (by first|(with_reducible assumption)|assumption)
        have q7:(ji3)<(a0.size:Int):=of_decide_eq_true (by first|(with_reducible assumption)|assumption)
        have hx7:=bt_at a0 (ji3)
        replace p7:=eq_true p7
        replace q7:=eq_true q7
        go_enter Try.func32,Try.ntmps32
        go_wp2_with (first|((with_reducible refine gate_callee (f:=56) rfl ?_); refine goesL_ (some 32) rfl rfl Try.func56 (by kernel_rfl) rfl #[.string (a0.extract 0 ((ji3):Int).toNat),.int .i64 1,.int .i64 1000000] rfl (by (try simp only [List.map_toArray,List.map_cons,List.map_nil]); first|done|(simp only [hji3]; rfl)|rfl|(simp only [List.length_drop,List.length_take]; rfl)) ?_; (with_reducible refine (impl_times.calls k (a0.extract 0 ((ji3):Int).toNat) 1 1000000 t287 t288 _ A13.out).mono ?_); rintro e w' ⟨rfl,⟨nd,rfl⟩⟩; refine ⟨_,rfl,?_⟩))
        go_ret2
        exact ⟨by first|rfl|(simp; done)|(simp only [← hji3]<;>(first|rfl|simp))|(simp [*]; done),by repeat (first|exact Drawn0.refl _|apply Drawn0.step)⟩
       ·rw [if_neg c12] at H
        have c12b0:((bt a0 (ji3)) == 115)=false:=beq_eq_false_iff_ne.mpr c12
        have c12b1:((bt a0 (ji3)) != 115)=true:=bne_iff_ne.mpr c12
        simp only [Option.some.injEq,Prod.mk.injEq] at H
        obtain ⟨rfl,rfl⟩:=H
        have p7:0≤((ji3):Int):=of_decide_eq_true (by first|(with_reducible assumption)|assumption)
        have q7:(ji3)<(a0.size:Int):=of_decide_eq_true (by first|(with_reducible assumption)|assumption)
        have hx7:=bt_at a0 (ji3)
        replace p7:=eq_true p7
        replace q7:=eq_true q7
        go_enter Try.func32,Try.ntmps32
        go_wp2
        go_ret2
        exact ⟨by first|rfl|(simp; done)|(simp only [← hji3]<;>(first|rfl|simp))|(simp [*]; done),by repeat (first|exact Drawn0.refl _|apply Drawn0.step)⟩
    ·rw [if_neg c6] at H
     exact absurd H (by simp)
   ·rw [if_neg c5] at H
    exact absurd H (by simp)
  ·rw [if_neg c4] at H
   exact absurd H (by simp)
end
end Go.Proofs.Ytdlhidjphaaklaa.P
