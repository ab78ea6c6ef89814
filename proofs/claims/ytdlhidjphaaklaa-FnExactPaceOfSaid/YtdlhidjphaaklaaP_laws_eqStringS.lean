import Derived.Test.YtdlhidjphaaklaaP0
namespace Go.Proofs.Ytdlhidjphaaklaa.P
open Go.RowKit Go.Proofs.YtdlhidjphaaklaaW.PrintWords Go.Proofs.YtdlhidjphaaklaaW.PrintLast Go.Proofs.YtdlhidjphaaklaaW.PrintMore
attribute [local go_sem] max2_int min2_int max_two min_two max_three min_three max_four min_four
set_option linter.unusedVariables false
set_option linter.unusedSimpArgs false
noncomputable section
def laws_eqStringS.l0:Nat→List ByteArray→List ByteArray→Int→Option (Bool)
 |0,_,_,_=>none
 |k+1,x0,x1,x5=>if x5<(x0.length:Int) then (if 0≤x5 then (if x5<(x1.length:Int) then (if (rdOf ByteArray.empty x0 x5).toList=(rdOf ByteArray.empty x1 x5).toList then (laws_eqStringS.l0 k x0 x1 (wrap64 (x5+1))) else (some false)) else (none)) else (none)) else (some true)
def laws_eqStringS.f (k:Nat) (l0:List ByteArray) (l1:List ByteArray):Option (Bool):=if (l0.length:Int)=(l1.length:Int) then (laws_eqStringS.l0 k l0 l1 0) else (some false)
theorem laws_eqStringS.mono_l:∀ k,(∀ y0 y1 y2,LeO (laws_eqStringS.l0 k y0 y1 y2) (laws_eqStringS.l0 (k+1) y0 y1 y2))
 |0=>fun _ _ _ r h=>by simp [laws_eqStringS.l0] at h
 |k+1=>by
  have ih0:=laws_eqStringS.mono_l k
  ·intro y0 y1 y2
   unfold laws_eqStringS.l0
   repeat' first
   |(with_reducible exact ih0 _ _ _)
   |(with_reducible exact LeO.refl _)
   |(with_reducible exact LeO.none _)
   |(with_reducible refine LeO.ite ?_ ?_)
   |(with_reducible refine LeO.bind ?_ (fun _=>?_))
   |exact ih0 _ _ _
   |exact LeO.none _
   |refine LeO.ite ?_ ?_
   |refine LeO.bind ?_ (fun _=>?_)
theorem laws_eqStringS.mono:∀ a0 a1 k,LeO (laws_eqStringS.f k a0 a1) (laws_eqStringS.f (k+1) a0 a1):=by
 intro a0 a1 k
 have ih0:=laws_eqStringS.mono_l k
 unfold laws_eqStringS.f
 repeat' first
   |(with_reducible exact ih0 _ _ _)
   |(with_reducible exact LeO.refl _)
   |(with_reducible exact LeO.none _)
   |(with_reducible refine LeO.ite ?_ ?_)
   |(with_reducible refine LeO.bind ?_ (fun _=>?_))
   |exact ih0 _ _ _
   |exact LeO.none _
   |refine LeO.ite ?_ ?_
   |refine LeO.bind ?_ (fun _=>?_)
set_option maxHeartbeats 8000000 in
set_option maxRecDepth 100000 in
theorem laws_eqStringS.calls (k:Nat) (A0:Option Addr) (c0:Nat) (l0:List ByteArray) (A1:Option Addr) (c1:Nat) (l1:List ByteArray) (r:Bool) (w:World) (hr0:Kd.C Kd.string w A0 l0.length l0) (hc0:l0.length≤c0) (hr1:Kd.C Kd.string w A1 l1.length l1) (hc1:l1.length≤c1) (h:laws_eqStringS.f k l0 l1=some r) :
  Calls Try.prog 33 #[.slice A0 l0.length c0,.slice A1 l1.length c1] w fun e w'=>e=.returned (.bool r)∧Drawn0 w w':=by
 have HR0:=Aside0.mk hr0
 have HC0:=Aside0.mk hc0
 clear hr0 hc0
 have HR1:=Aside0.mk hr1
 have HC1:=Aside0.mk hc1
 clear hr1 hc1
 have H:(if (l0.length:Int)=(l1.length:Int) then (laws_eqStringS.l0 k l0 l1 0) else (some false))=some r:=h
 clear h
 by_cases c3:(l0.length:Int)=(l1.length:Int)
 ·rw [if_pos c3] at H
  have c3b0:((l0.length:Int) == (l1.length:Int))=true:=beq_iff_eq.mpr c3
  have c3b1:((l0.length:Int) != (l1.length:Int))=false:=bne_eq_false_iff_eq.mpr c3
  have c3b2:(l0.length == l1.length)=true:=by first|simpa using c3|(simp at c3 ⊢; omega)
  clear c3
  have H':=Aside0.mk H
  clear H
  go_enter Try.func33,Try.ntmps33
  go_wp2
  repeat (go_quiet (fail); try go_wp2)
  go_loopg [5] k (fun kq v5 w'=>∃ (x5_1:Int),v5=.int .i64 x5_1∧Aside0 (laws_eqStringS.l0 kq l0 l1 x5_1=some r)∧Aside0 (kq≤k)∧Drawn0 w w')
  case atStart=>exact ⟨(0),(by first|rfl|(simp; done)|(simp [*]; done)),H',⟨Nat.le_refl _⟩,by repeat (first|exact Drawn0.refl _|apply Drawn0.step)⟩
  case round =>
   clear H'
   try clear c1
   try clear p2
   try clear c3
   try clear c3b0
   try clear c3b1
   try clear c3b2
   obtain ⟨x5_1,rfl,HA,HK1,⟨m1,rfl⟩⟩:=hrel
   cases gk with
   |zero=>exact absurd HA.out (by simp [laws_eqStringS.l0])
   |succ k1 =>
    have H:=HA.out
    clear HA
    simp only [laws_eqStringS.l0] at H
    by_cases c4:x5_1<(l0.length:Int)
    ·rw [if_pos c4] at H
     have c4b0:decide (x5_1<(l0.length:Int))=true:=decide_eq_true c4
     clear c4
     by_cases c5:0≤x5_1
     ·rw [if_pos c5] at H
      have c5b0:decide (0≤x5_1)=true:=decide_eq_true c5
      clear c5
      by_cases c6:x5_1<(l1.length:Int)
      ·rw [if_pos c6] at H
       have c6b0:decide (x5_1<(l1.length:Int))=true:=decide_eq_true c6
       clear c6
       by_cases c7:(rdOf ByteArray.empty l0 x5_1).toList=(rdOf ByteArray.empty l1 x5_1).toList
       ·rw [if_pos c7] at H
        have c7b0:((rdOf ByteArray.empty l0 x5_1).toList == (rdOf ByteArray.empty l1 x5_1).toList)=true:=beq_iff_eq.mpr c7
        have c7b1:((rdOf ByteArray.empty l0 x5_1).toList != (rdOf ByteArray.empty l1 x5_1).toList)=false:=bne_eq_false_iff_eq.mpr c7
        clear c7
        have H':=Aside0.mk H
        clear H
        have p326:0≤(x5_1:Int):=of_decide_eq_true (by first|(with_reducible assumption)|assumption)
        have q326:x5_1<(l0.length:Int):=of_decide_eq_true (by first|(with_reducible assumption)|assumption)
        obtain ⟨ad326,e326,hx326_0⟩:=Kd.at_string HR0.out x5_1 p326 q326
        cases e326
        replace p326:=eq_true p326
        replace q326:=eq_true q326
        have p327:0≤(x5_1:Int):=of_decide_eq_true (by first|(with_reducible assumption)|assumption)
        have q327:x5_1<(l1.length:Int):=of_decide_eq_true (by first|(with_reducible assumption)|assumption)
        obtain ⟨ad327,e327,hx327_0⟩:=Kd.at_string HR1.out x5_1 p327 q327
        cases e327
        replace p327:=eq_true p327
        replace q327:=eq_true q327
        go_wp2
        repeat (go_quiet (fail); try go_wp2)
        go_roundg k1
        case measure=>have:=HK1.out; omega
        case rel=>exact ⟨(wrap64 (x5_1+1)),(by first|rfl|(simp; done)|(simp [*]; done)),H',⟨by have:=HK1.out; omega⟩,by repeat (first|exact Drawn0.refl _|apply Drawn0.step)⟩
       ·rw [if_neg c7] at H
        have c7b0:((rdOf ByteArray.empty l0 x5_1).toList == (rdOf ByteArray.empty l1 x5_1).toList)=false:=beq_eq_false_iff_ne.mpr c7
        have c7b1:((rdOf ByteArray.empty l0 x5_1).toList != (rdOf ByteArray.empty l1 x5_1).toList)=true:=bne_iff_ne.mpr c7
        obtain rfl:=Option.some.inj H
        have p326:0≤(x5_1:Int):=of_decide_eq_true (by first|(with_reducible assumption)|assumption)
        have q326:x5_1<(l0.length:Int):=of_decide_eq_true (by first|(with_reducible assumption)|assumption)
        obtain ⟨ad326,e326,hx326_0⟩:=Kd.at_string HR0.out x5_1 p326 q326
        cases e326
        replace p326:=eq_true p326
        replace q326:=eq_true q326
        have p327:0≤(x5_1:Int):=of_decide_eq_true (by first|(with_reducible assumption)|assumption)
        have q327:x5_1<(l1.length:Int):=of_decide_eq_true (by first|(with_reducible assumption)|assumption)
        obtain ⟨ad327,e327,hx327_0⟩:=Kd.at_string HR1.out x5_1 p327 q327
        cases e327
        replace p327:=eq_true p327
        replace q327:=eq_true q327
        go_wp2
        repeat (go_quiet (fail); try go_wp2)
        go_ret
        exact ⟨by first|rfl|(simp; done)|(simp [*]; done),by repeat (first|exact Drawn0.refl _|apply Drawn0.step)⟩
      ·rw [if_neg c6] at H
       exact absurd H (by simp)
     ·rw [if_neg c5] at H
      exact absurd H (by simp)
    ·rw [if_neg c4] at H
     have c4b0:decide (x5_1<(l0.length:Int))=false:=decide_eq_false c4
     clear c4
     obtain rfl:=Option.some.inj H
     go_wp2
     repeat (go_quiet (fail); try go_wp2)
     go_ret
     exact ⟨by first|rfl|(simp; done)|(simp [*]; done),by repeat (first|exact Drawn0.refl _|apply Drawn0.step)⟩
 ·rw [if_neg c3] at H
  have c3b0:((l0.length:Int) == (l1.length:Int))=false:=beq_eq_false_iff_ne.mpr c3
  have c3b1:((l0.length:Int) != (l1.length:Int))=true:=bne_iff_ne.mpr c3
  have c3b2:(l0.length == l1.length)=false:=by first|simpa using c3|(simp at c3 ⊢; omega)
  obtain rfl:=Option.some.inj H
  go_enter Try.func33,Try.ntmps33
  go_wp2
  repeat (go_quiet (fail); try go_wp2)
  go_ret
  exact ⟨by first|rfl|(simp; done)|(simp [*]; done),by repeat (first|exact Drawn0.refl _|apply Drawn0.step)⟩
mutual
def laws_eqNode.f:Nat→Int→Int→ByteArray→List ByteArray→List (S33)→Int→Int→ByteArray→List ByteArray→List (S33)→Option (Bool)
 |0,_,_,_,_,_,_,_,_,_,_=>none
 |k+1,a0_0,a0_1,a0_2,l0_3,l0_4,a1_0,a1_1,a1_2,l1_3,l1_4=>if a0_0=a1_0 then (if a0_1=a1_1 then (if a0_2.toList=a1_2.toList then ((laws_eqStringS.f k l0_3 l1_3).bind fun t330=>(if t330=true then ((laws_eqNodeS.f k l0_4 l1_4).bind fun t331=>(if t331=true then (some true) else (some false))) else (some false))) else (some false)) else (some false)) else (some false)
def laws_eqNodeS.l0:Nat→List (S33)→List (S33)→Int→Option (Bool)
 |0,_,_,_=>none
 |k+1,x0,x1,x5=>if x5<(x0.length:Int) then (if 0≤x5 then (if x5<(x1.length:Int) then ((laws_eqNode.f k ((rd_T33 x0 x5).f0) ((rd_T33 x0 x5).f1) ((rd_T33 x0 x5).f2) ((rd_T33 x0 x5).f3) ((rd_T33 x0 x5).f4) ((rd_T33 x1 x5).f0) ((rd_T33 x1 x5).f1) ((rd_T33 x1 x5).f2) ((rd_T33 x1 x5).f3) ((rd_T33 x1 x5).f4)).bind fun t334=>(if t334=true then (laws_eqNodeS.l0 k x0 x1 (wrap64 (x5+1))) else (some false))) else (none)) else (none)) else (some true)
def laws_eqNodeS.f:Nat→List (S33)→List (S33)→Option (Bool)
 |0,_,_=>none
 |k+1,l0,l1=>if (l0.length:Int)=(l1.length:Int) then (laws_eqNodeS.l0 k l0 l1 0) else (some false)
end
theorem laws_eqNode.mono_l:∀ k,(∀ y0 y1 y2 y3 y4 y5 y6 y7 y8 y9,LeO (laws_eqNode.f k y0 y1 y2 y3 y4 y5 y6 y7 y8 y9) (laws_eqNode.f (k+1) y0 y1 y2 y3 y4 y5 y6 y7 y8 y9))∧(∀ y0 y1 y2,LeO (laws_eqNodeS.l0 k y0 y1 y2) (laws_eqNodeS.l0 (k+1) y0 y1 y2))∧(∀ y0 y1,LeO (laws_eqNodeS.f k y0 y1) (laws_eqNodeS.f (k+1) y0 y1))
 |0=>⟨fun _ _ _ _ _ _ _ _ _ _ r h=>by simp [laws_eqNode.f] at h,fun _ _ _ r h=>by simp [laws_eqNodeS.l0] at h,fun _ _ r h=>by simp [laws_eqNodeS.f] at h⟩
 |k+1=>by
  obtain ⟨ih0,ih1,ih2⟩:=laws_eqNode.mono_l k
  refine ⟨?_,?_,?_⟩
  ·intro y0 y1 y2 y3 y4 y5 y6 y7 y8 y9
   unfold laws_eqNode.f
   repeat' first
   |(with_reducible exact ih0 _ _ _ _ _ _ _ _ _ _)
   |(with_reducible exact ih1 _ _ _)
   |(with_reducible exact ih2 _ _)
   |(with_reducible exact laws_eqStringS.mono _ _ _)
   |(with_reducible exact LeO.refl _)
   |(with_reducible exact LeO.none _)
   |(with_reducible refine LeO.ite ?_ ?_)
   |(with_reducible refine LeO.bind ?_ (fun _=>?_))
   |exact ih0 _ _ _ _ _ _ _ _ _ _
   |exact ih1 _ _ _
   |exact ih2 _ _
   |exact laws_eqStringS.mono _ _ _
   |exact LeO.none _
   |refine LeO.ite ?_ ?_
   |refine LeO.bind ?_ (fun _=>?_)
  ·intro y0 y1 y2
   unfold laws_eqNodeS.l0
   repeat' first
   |(with_reducible exact ih0 _ _ _ _ _ _ _ _ _ _)
   |(with_reducible exact ih1 _ _ _)
   |(with_reducible exact ih2 _ _)
   |(with_reducible exact laws_eqStringS.mono _ _ _)
   |(with_reducible exact LeO.refl _)
   |(with_reducible exact LeO.none _)
   |(with_reducible refine LeO.ite ?_ ?_)
   |(with_reducible refine LeO.bind ?_ (fun _=>?_))
   |exact ih0 _ _ _ _ _ _ _ _ _ _
   |exact ih1 _ _ _
   |exact ih2 _ _
   |exact laws_eqStringS.mono _ _ _
   |exact LeO.none _
   |refine LeO.ite ?_ ?_
   |refine LeO.bind ?_ (fun _=>?_)
  ·intro y0 y1
   unfold laws_eqNodeS.f
   repeat' first
   |(with_reducible exact ih0 _ _ _ _ _ _ _ _ _ _)
   |(with_reducible exact ih1 _ _ _)
   |(with_reducible exact ih2 _ _)
   |(with_reducible exact laws_eqStringS.mono _ _ _)
   |(with_reducible exact LeO.refl _)
   |(with_reducible exact LeO.none _)
   |(with_reducible refine LeO.ite ?_ ?_)
   |(with_reducible refine LeO.bind ?_ (fun _=>?_))
   |exact ih0 _ _ _ _ _ _ _ _ _ _
   |exact ih1 _ _ _
   |exact ih2 _ _
   |exact laws_eqStringS.mono _ _ _
   |exact LeO.none _
   |refine LeO.ite ?_ ?_
   |refine LeO.bind ?_ (fun _=>?_)
theorem laws_eqNode.mono:∀ a0 a1 a2 a3 a4 a5 a6 a7 a8 a9 k,LeO (laws_eqNode.f k a0 a1 a2 a3 a4 a5 a6 a7 a8 a9) (laws_eqNode.f (k+1) a0 a1 a2 a3 a4 a5 a6 a7 a8 a9):=by
 intro a0 a1 a2 a3 a4 a5 a6 a7 a8 a9 k
 obtain ⟨ih0,ih1,ih2⟩:=laws_eqNode.mono_l k
 exact ih0 a0 a1 a2 a3 a4 a5 a6 a7 a8 a9
theorem laws_eqNodeS.mono:∀ a0 a1 k,LeO (laws_eqNodeS.f k a0 a1) (laws_eqNodeS.f (k+1) a0 a1):=by
 intro a0 a1 k
 obtain ⟨ih0,ih1,ih2⟩:=laws_eqNode.mono_l k
 exact ih2 a0 a1
def laws_eqNodeS.T6:Bool × List (List Nat × List Nat):=(true,[([],[]),([],[]),([0,1],[0,1]),([2],[2]),([],[]),([],[]),([4,5],[4,5]),([6],[6]),([3,7],[3,7]),([8],[8])])
def laws_eqNodeS.B6:List Nat:=[0,0,3,7,0,0,48,112,255,511]
theorem laws_eqNodeS.tab6:rtab .any (opsOf Try.f34 6)=laws_eqNodeS.T6:=by kernel_rfl
theorem laws_eqNodeS.bits6:waitsOk laws_eqNodeS.T6.2 laws_eqNodeS.B6=true:=by kernel_rfl
set_option maxHeartbeats 8000000 in
set_option maxRecDepth 100000 in
theorem laws_eqNode.calls_all (k:Nat):(∀ (a0_0:Int) (a0_1:Int) (a0_2:ByteArray) (A0_3:Option Addr) (c0_3:Nat) (l0_3:List ByteArray) (A0_4:Option Addr) (c0_4:Nat) (l0_4:List (S33)) (a1_0:Int) (a1_1:Int) (a1_2:ByteArray) (A1_3:Option Addr) (c1_3:Nat) (l1_3:List ByteArray) (A1_4:Option Addr) (c1_4:Nat) (l1_4:List (S33)) (r:Bool) (w:World) (hr0_3:Kd.C Kd.string w A0_3 l0_3.length l0_3) (hc0_3:l0_3.length≤c0_3) (hr0_4:Kd.C k33 w A0_4 l0_4.length l0_4) (hc0_4:l0_4.length≤c0_4) (hr1_3:Kd.C Kd.string w A1_3 l1_3.length l1_3) (hc1_3:l1_3.length≤c1_3) (hr1_4:Kd.C k33 w A1_4 l1_4.length l1_4) (hc1_4:l1_4.length≤c1_4) (h:laws_eqNode.f k a0_0 a0_1 a0_2 l0_3 l0_4 a1_0 a1_1 a1_2 l1_3 l1_4=some r),
  Calls Try.prog 10 #[.agg #[.int .i64 a0_0,.int .i64 a0_1,.string a0_2,.slice A0_3 l0_3.length c0_3,.slice A0_4 l0_4.length c0_4],.agg #[.int .i64 a1_0,.int .i64 a1_1,.string a1_2,.slice A1_3 l1_3.length c1_3,.slice A1_4 l1_4.length c1_4]] w fun e w'=>e=.returned (.bool r)∧Below w.heap.size w w')∧(∀ (A0:Option Addr) (c0:Nat) (l0:List (S33)) (A1:Option Addr) (c1:Nat) (l1:List (S33)) (r:Bool) (w:World) (hr0:Kd.C k33 w A0 l0.length l0) (hc0:l0.length≤c0) (hr1:Kd.C k33 w A1 l1.length l1) (hc1:l1.length≤c1) (h:laws_eqNodeS.f k l0 l1=some r),
  Calls Try.prog 34 #[.slice A0 l0.length c0,.slice A1 l1.length c1] w fun e w'=>e=.returned (.bool r)∧Below w.heap.size w w'):=by
 induction k using Nat.strongRecOn with
 |_ k ihall =>
 have ih_laws_eqNode:=fun k' h'=>(ihall k' h').1
 have ih_laws_eqNodeS:=fun k' h'=>(ihall k' h').2
 clear ihall
 refine ⟨?_,?_⟩
 ·skip
  intro a0_0 a0_1 a0_2 A0_3 c0_3 l0_3 A0_4 c0_4 l0_4 a1_0 a1_1 a1_2 A1_3 c1_3 l1_3 A1_4 c1_4 l1_4 r w hr0_3 hc0_3 hr0_4 hc0_4 hr1_3 hc1_3 hr1_4 hc1_4 h
  cases k with
  |zero=>exact absurd h (by simp [laws_eqNode.f])
  |succ k =>
  simp only [laws_eqNode.f] at h
  have hu33:=Try.underlying33
  have HR0_3:=Aside0.mk hr0_3
  have HC0_3:=Aside0.mk hc0_3
  clear hr0_3 hc0_3
  have HR0_4:=Aside0.mk hr0_4
  have HC0_4:=Aside0.mk hc0_4
  clear hr0_4 hc0_4
  have HR1_3:=Aside0.mk hr1_3
  have HC1_3:=Aside0.mk hc1_3
  clear hr1_3 hc1_3
  have HR1_4:=Aside0.mk hr1_4
  have HC1_4:=Aside0.mk hc1_4
  clear hr1_4 hc1_4
  have HB:=Aside0.mk (Below.refl w.heap.size w)
  have H:(if a0_0=a1_0 then (if a0_1=a1_1 then (if a0_2.toList=a1_2.toList then ((laws_eqStringS.f k l0_3 l1_3).bind fun t330=>(if t330=true then ((laws_eqNodeS.f k l0_4 l1_4).bind fun t331=>(if t331=true then (some true) else (some false))) else (some false))) else (some false)) else (some false)) else (some false))=some r:=h
  clear h
  have HC3:=Aside0.mk H
  clear H
  go_enter Try.func10,Try.ntmps10
  go_upto_if 9 with (first|((with_reducible refine gate_dst (N:=2) rfl ?_); refine box_event ?hg (N:=2) ?hd (cs:=#[.int .i64 a0_0,.int .i64 a0_1,.string a0_2,.slice A0_3 l0_3.length c0_3,.slice A0_4 l0_4.length c0_4]) (t:=33) ?hr ?_; (case hd=>rfl); (case hg=>rfl); (case hr=>first|(go_simp; done)|(go_simp; rfl)); intro gb328 hg w4 hbox hb; have n0_:=Aside0.mk (below_step (by repeat (first|(with_reducible first|exact HB.out|apply below_alloc|apply pw_below_drewN|apply below_drew1)|exact HB.out)) hb); have n1_:=Aside0.mk (hbox); have n2_:=Aside0.mk ((by rw [hg]; exact (below_size (by repeat (first|(with_reducible first|exact HB.out|apply below_alloc|apply pw_below_drewN|apply below_drew1)|exact HB.out))):w.heap.size≤gb328)); have n3_:=Aside0.mk ((by rw [hg]; exact (below_size (by repeat (first|(with_reducible first|exact HB.out|apply below_alloc|apply pw_below_drewN|apply below_drew1)|exact HB.out))):w.heap.size≤gb328)); clear HB; have HB:=n0_; have BK328:=n1_; have GW328:=n2_; have GE328:=n3_; clear n0_ n1_ n2_ n3_; clear hb hbox hg)|((with_reducible refine gate_dst (N:=3) rfl ?_); refine box_event ?hg (N:=3) ?hd (cs:=#[.int .i64 a1_0,.int .i64 a1_1,.string a1_2,.slice A1_3 l1_3.length c1_3,.slice A1_4 l1_4.length c1_4]) (t:=33) ?hr ?_; (case hd=>rfl); (case hg=>rfl); (case hr=>first|(go_simp; done)|(go_simp; rfl)); intro gb329 hg w5 hbox hb; have n0_:=Aside0.mk (blk_below (g:=gb328) (o:=.cells #[.int .i64 a0_0,.int .i64 a0_1,.string a0_2,.slice A0_3 l0_3.length c0_3,.slice A0_4 l0_4.length c0_4] 33 (0,0)) (by (with_reducible repeat (first|refine blk_drewN ?_ _|refine blk_drew ?_|refine blk_alloc ?_ _)); exact BK328.out) hb); have n1_:=Aside0.mk (below_step (by repeat (first|(with_reducible first|exact HB.out|apply below_alloc|apply pw_below_drewN|apply below_drew1|refine below_set ?_ GE328.out)|exact HB.out)) hb); have n2_:=Aside0.mk (hbox); have n3_:=Aside0.mk ((by rw [hg]; exact (below_size (by repeat (first|(with_reducible first|exact HB.out|apply below_alloc|apply pw_below_drewN|apply below_drew1|refine below_set ?_ GE328.out)|exact HB.out))):w.heap.size≤gb329)); have n4_:=Aside0.mk ((by rw [hg]; exact (below_size (by repeat (first|(with_reducible first|exact HB.out|apply below_alloc|apply pw_below_drewN|apply below_drew1|refine below_set ?_ GE328.out)|exact HB.out))):w.heap.size≤gb329)); have n5_:=Aside0.mk ((by rw [hg]; exact Nat.ne_of_lt (blk_lt (g:=gb328) (o:=.cells #[.int .i64 a0_0,.int .i64 a0_1,.string a0_2,.slice A0_3 l0_3.length c0_3,.slice A0_4 l0_4.length c0_4] 33 (0,0)) (by (with_reducible repeat (first|refine blk_drewN ?_ _|refine blk_drew ?_|refine blk_alloc ?_ _)); exact BK328.out)):gb328 ≠ gb329)); have n6_:=Aside0.mk ((by rw [hg]; exact Nat.ne_of_gt (blk_lt (g:=gb328) (o:=.cells #[.int .i64 a0_0,.int .i64 a0_1,.string a0_2,.slice A0_3 l0_3.length c0_3,.slice A0_4 l0_4.length c0_4] 33 (0,0)) (by (with_reducible repeat (first|refine blk_drewN ?_ _|refine blk_drew ?_|refine blk_alloc ?_ _)); exact BK328.out)):gb329 ≠ gb328)); clear BK328; clear HB; have BK328:=n0_; have HB:=n1_; have BK329:=n2_; have GW329:=n3_; have GE329:=n4_; have NB328_329:=n5_; have NB329_328:=n6_; clear n0_ n1_ n2_ n3_ n4_ n5_ n6_; clear hb hbox hg; have hnb6:=NB328_329.out; have hnc6:=NB329_328.out; have hcz7_0:w5.cell? ⟨gb328,0,none⟩=some (.int .i64 a0_0):=(blk_cell BK328.out 0).trans rfl; have hcz7_1:w5.cell? ⟨gb328,1,none⟩=some (.int .i64 a0_1):=(blk_cell BK328.out 1).trans rfl; have hcz7_2:w5.cell? ⟨gb328,2,none⟩=some (.string a0_2):=(blk_cell BK328.out 2).trans rfl; have hcz7_3:w5.cell? ⟨gb328,3,none⟩=some (.slice A0_3 l0_3.length c0_3):=(blk_cell BK328.out 3).trans rfl; have hcz7_4:w5.cell? ⟨gb328,4,none⟩=some (.slice A0_4 l0_4.length c0_4):=(blk_cell BK328.out 4).trans rfl; have hfz7_0:=blk_frozen BK328.out 0; have hfz7_1:=blk_frozen BK328.out 1; have hfz7_2:=blk_frozen BK328.out 2; have hfz7_3:=blk_frozen BK328.out 3; have hfz7_4:=blk_frozen BK328.out 4; have hcz8_0:w5.cell? ⟨gb329,0,none⟩=some (.int .i64 a1_0):=(blk_cell BK329.out 0).trans rfl; have hcz8_1:w5.cell? ⟨gb329,1,none⟩=some (.int .i64 a1_1):=(blk_cell BK329.out 1).trans rfl; have hcz8_2:w5.cell? ⟨gb329,2,none⟩=some (.string a1_2):=(blk_cell BK329.out 2).trans rfl; have hcz8_3:w5.cell? ⟨gb329,3,none⟩=some (.slice A1_3 l1_3.length c1_3):=(blk_cell BK329.out 3).trans rfl; have hcz8_4:w5.cell? ⟨gb329,4,none⟩=some (.slice A1_4 l1_4.length c1_4):=(blk_cell BK329.out 4).trans rfl; have hfz8_0:=blk_frozen BK329.out 0; have hfz8_1:=blk_frozen BK329.out 1; have hfz8_2:=blk_frozen BK329.out 2; have hfz8_3:=blk_frozen BK329.out 3; have hfz8_4:=blk_frozen BK329.out 4))
  (try simp only [Act.put,List.setIfInBounds_toArray,List.set_cons_zero,List.set_cons_succ])
  have H:=HC3.out
  clear HC3
  by_cases c9:a0_0=a1_0
  ·rw [if_pos c9] at H
   have c9b0:(a0_0 == a1_0)=true:=beq_iff_eq.mpr c9
   have c9b1:(a0_0 != a1_0)=false:=bne_eq_false_iff_eq.mpr c9
   clear c9
   (first|rw [c9b0]|rw [c9b1]|(simp only [i64_w,i32_w]; rw [c9b0])|skip)
   by_cases c10:a0_1=a1_1
   ·rw [if_pos c10] at H
    have c10b0:(a0_1 == a1_1)=true:=beq_iff_eq.mpr c10
    have c10b1:(a0_1 != a1_1)=false:=bne_eq_false_iff_eq.mpr c10
    clear c10
    by_cases c11:a0_2.toList=a1_2.toList
    ·rw [if_pos c11] at H
     have c11b0:(a0_2.toList == a1_2.toList)=true:=beq_iff_eq.mpr c11
     have c11b1:(a0_2.toList != a1_2.toList)=false:=bne_eq_false_iff_eq.mpr c11
     clear c11
     replace H:=Option.bind_eq_some_iff.mp H
     obtain ⟨t330,A120,H⟩:=H
     replace H:(if t330=true then ((laws_eqNodeS.f k l0_4 l1_4).bind fun t331=>(if t331=true then (some true) else (some false))) else (some false))=some r:=H
     have A12:=Aside0.mk A120
     clear A120
     have HC13:=Aside0.mk H
     clear H
     have hnb14:=NB328_329.out
     have hnc14:=NB329_328.out
     have hcz15_0:w5.cell? ⟨gb328,0,none⟩=some (.int .i64 a0_0):=(blk_cell BK328.out 0).trans rfl
     have hcz15_1:w5.cell? ⟨gb328,1,none⟩=some (.int .i64 a0_1):=(blk_cell BK328.out 1).trans rfl
     have hcz15_2:w5.cell? ⟨gb328,2,none⟩=some (.string a0_2):=(blk_cell BK328.out 2).trans rfl
     have hcz15_3:w5.cell? ⟨gb328,3,none⟩=some (.slice A0_3 l0_3.length c0_3):=(blk_cell BK328.out 3).trans rfl
     have hcz15_4:w5.cell? ⟨gb328,4,none⟩=some (.slice A0_4 l0_4.length c0_4):=(blk_cell BK328.out 4).trans rfl
     have hfz15_0:=blk_frozen BK328.out 0
     have hfz15_1:=blk_frozen BK328.out 1
     have hfz15_2:=blk_frozen BK328.out 2
     have hfz15_3:=blk_frozen BK328.out 3
     have hfz15_4:=blk_frozen BK328.out 4
     have hcz16_0:w5.cell? ⟨gb329,0,none⟩=some (.int .i64 a1_0):=(blk_cell BK329.out 0).trans rfl
     have hcz16_1:w5.cell? ⟨gb329,1,none⟩=some (.int .i64 a1_1):=(blk_cell BK329.out 1).trans rfl
     have hcz16_2:w5.cell? ⟨gb329,2,none⟩=some (.string a1_2):=(blk_cell BK329.out 2).trans rfl
     have hcz16_3:w5.cell? ⟨gb329,3,none⟩=some (.slice A1_3 l1_3.length c1_3):=(blk_cell BK329.out 3).trans rfl
     have hcz16_4:w5.cell? ⟨gb329,4,none⟩=some (.slice A1_4 l1_4.length c1_4):=(blk_cell BK329.out 4).trans rfl
     have hfz16_0:=blk_frozen BK329.out 0
     have hfz16_1:=blk_frozen BK329.out 1
     have hfz16_2:=blk_frozen BK329.out 2
     have hfz16_3:=blk_frozen BK329.out 3
     have hfz16_4:=blk_frozen BK329.out 4
     go_upto_if 25 with (first|((with_reducible refine gate_callee (f:=33) rfl ?_); refine goesL_ (some 24) rfl rfl Try.func33 (by kernel_rfl) rfl #[.slice A0_3 l0_3.length c0_3,.slice A1_3 l1_3.length c1_3] rfl (by (try simp only [List.map_toArray,List.map_cons,List.map_nil]); first|done|rfl|(simp only [List.length_drop,List.length_take]; rfl)) ?_; (with_reducible refine (laws_eqStringS.calls k _ _ l0_3 _ _ l1_3 t330 _ ?side1 ?side2 ?side3 ?side4 A12.out).mono ?_); (case side1=>repeat (first|exact (Kd.C_below HR0_3.out HB.out)|(with_reducible refine Kd.C_alloc ?_ _)|(with_reducible refine Kd.C_drewN ?_ _)|(with_reducible refine Kd.C_drew ?_))); (case side2=>exact HC0_3.out); (case side3=>repeat (first|exact (Kd.C_below HR1_3.out HB.out)|(with_reducible refine Kd.C_alloc ?_ _)|(with_reducible refine Kd.C_drewN ?_ _)|(with_reducible refine Kd.C_drew ?_))); (case side4=>exact HC1_3.out); rintro e w' ⟨rfl,⟨nd,rfl⟩⟩; refine ⟨_,rfl,?_⟩))
     (try simp only [Act.put,List.setIfInBounds_toArray,List.set_cons_zero,List.set_cons_succ])
     have H:=HC13.out
     clear HC13
     by_cases c17:t330=true
     ·subst c17
      have H1:((laws_eqNodeS.f k l0_4 l1_4).bind fun t331=>(if t331=true then (some true) else (some false)))=some r:=by rw [if_pos rfl] at H; exact H
      clear H
      have H:=H1
      clear H1
      replace H:=Option.bind_eq_some_iff.mp H
      obtain ⟨t331,A180,H⟩:=H
      replace H:(if t331=true then (some true) else (some false))=some r:=H
      have A18:=Aside0.mk A180
      clear A180
      have HC19:=Aside0.mk H
      clear H
      have hnb20:=NB328_329.out
      have hnc20:=NB329_328.out
      have hcz21_0:w5.cell? ⟨gb328,0,none⟩=some (.int .i64 a0_0):=(blk_cell BK328.out 0).trans rfl
      have hcz21_1:w5.cell? ⟨gb328,1,none⟩=some (.int .i64 a0_1):=(blk_cell BK328.out 1).trans rfl
      have hcz21_2:w5.cell? ⟨gb328,2,none⟩=some (.string a0_2):=(blk_cell BK328.out 2).trans rfl
      have hcz21_3:w5.cell? ⟨gb328,3,none⟩=some (.slice A0_3 l0_3.length c0_3):=(blk_cell BK328.out 3).trans rfl
      have hcz21_4:w5.cell? ⟨gb328,4,none⟩=some (.slice A0_4 l0_4.length c0_4):=(blk_cell BK328.out 4).trans rfl
      have hfz21_0:=blk_frozen BK328.out 0
      have hfz21_1:=blk_frozen BK328.out 1
      have hfz21_2:=blk_frozen BK328.out 2
      have hfz21_3:=blk_frozen BK328.out 3
      have hfz21_4:=blk_frozen BK328.out 4
      have hcz22_0:w5.cell? ⟨gb329,0,none⟩=some (.int .i64 a1_0):=(blk_cell BK329.out 0).trans rfl
      have hcz22_1:w5.cell? ⟨gb329,1,none⟩=some (.int .i64 a1_1):=(blk_cell BK329.out 1).trans rfl
      have hcz22_2:w5.cell? ⟨gb329,2,none⟩=some (.string a1_2):=(blk_cell BK329.out 2).trans rfl
      have hcz22_3:w5.cell? ⟨gb329,3,none⟩=some (.slice A1_3 l1_3.length c1_3):=(blk_cell BK329.out 3).trans rfl
      have hcz22_4:w5.cell? ⟨gb329,4,none⟩=some (.slice A1_4 l1_4.length c1_4):=(blk_cell BK329.out 4).trans rfl
      have hfz22_0:=blk_frozen BK329.out 0
      have hfz22_1:=blk_frozen BK329.out 1
      have hfz22_2:=blk_frozen BK329.out 2
      have hfz22_3:=blk_frozen BK329.out 3
      have hfz22_4:=blk_frozen BK329.out 4
      go_upto_if 31 with (first|((with_reducible refine gate_callee (f:=34) rfl ?_); refine goesL_ (some 30) rfl rfl Try.func34 (by kernel_rfl) rfl #[.slice A0_4 l0_4.length c0_4,.slice A1_4 l1_4.length c1_4] rfl (by (try simp only [List.map_toArray,List.map_cons,List.map_nil]); first|done|rfl|(simp only [List.length_drop,List.length_take]; rfl)) ?_; (with_reducible refine (ih_laws_eqNodeS k (by omega) _ _ l0_4 _ _ l1_4 t331 _ ?side1 ?side2 ?side3 ?side4 A18.out).mono ?_); (case side1=>repeat (first|exact (Kd.C_below HR0_4.out HB.out)|(with_reducible refine Kd.C_alloc ?_ _)|(with_reducible refine Kd.C_drewN ?_ _)|(with_reducible refine Kd.C_drew ?_))); (case side2=>exact HC0_4.out); (case side3=>repeat (first|exact (Kd.C_below HR1_4.out HB.out)|(with_reducible refine Kd.C_alloc ?_ _)|(with_reducible refine Kd.C_drewN ?_ _)|(with_reducible refine Kd.C_drew ?_))); (case side4=>exact HC1_4.out); rintro e w23 ⟨rfl,hb⟩; refine ⟨_,rfl,?_⟩; have n0_:=Aside0.mk (blk_below (g:=gb328) (o:=.cells #[.int .i64 a0_0,.int .i64 a0_1,.string a0_2,.slice A0_3 l0_3.length c0_3,.slice A0_4 l0_4.length c0_4] 33 (0,0)) (by (with_reducible repeat (first|refine blk_drewN ?_ _|refine blk_drew ?_|refine blk_alloc ?_ _)); exact BK328.out) hb); have n1_:=Aside0.mk (blk_below (g:=gb329) (o:=.cells #[.int .i64 a1_0,.int .i64 a1_1,.string a1_2,.slice A1_3 l1_3.length c1_3,.slice A1_4 l1_4.length c1_4] 33 (0,0)) (by (with_reducible repeat (first|refine blk_drewN ?_ _|refine blk_drew ?_|refine blk_alloc ?_ _)); exact BK329.out) hb); have n2_:=Aside0.mk (below_step (by repeat (first|(with_reducible first|exact HB.out|apply below_alloc|apply pw_below_drewN|apply below_drew1|refine below_set ?_ GE328.out|refine below_set ?_ GE329.out)|exact HB.out)) hb); clear BK328; clear BK329; clear HB; have BK328:=n0_; have BK329:=n1_; have HB:=n2_; clear n0_ n1_ n2_; (try clear hb); (try clear hb2); (try clear hk); (try clear hi)))
      (try simp only [Act.put,List.setIfInBounds_toArray,List.set_cons_zero,List.set_cons_succ])
      have H:=HC19.out
      clear HC19
      by_cases c24:t331=true
      ·subst c24
       have H1:(some true)=some r:=by rw [if_pos rfl] at H; exact H
       clear H
       have H:=H1
       clear H1
       obtain rfl:=Option.some.inj H
       go_wp2
       go_ret
       exact ⟨by first|rfl|(simp [errW_none,errW_some]<;>rfl)|(simp [*,errW_none,errW_some]<;>rfl),by repeat (first|(with_reducible first|exact HB.out|apply below_alloc|apply pw_below_drewN|apply below_drew1|refine below_set ?_ GE328.out|refine below_set ?_ GE329.out)|exact HB.out)⟩
      ·replace c24:=Bool.eq_false_iff.mpr c24
       subst c24
       have H1:(some false)=some r:=by rw [if_neg (show ¬ (false=true) by decide)] at H; exact H
       clear H
       have H:=H1
       clear H1
       obtain rfl:=Option.some.inj H
       go_wp2
       go_ret
       exact ⟨by first|rfl|(simp [errW_none,errW_some]<;>rfl)|(simp [*,errW_none,errW_some]<;>rfl),by repeat (first|(with_reducible first|exact HB.out|apply below_alloc|apply pw_below_drewN|apply below_drew1|refine below_set ?_ GE328.out|refine below_set ?_ GE329.out)|exact HB.out)⟩
     ·replace c17:=Bool.eq_false_iff.mpr c17
      subst c17
      have H1:(some false)=some r:=by rw [if_neg (show ¬ (false=true) by decide)] at H; exact H
      clear H
      have H:=H1
      clear H1
      obtain rfl:=Option.some.inj H
      go_wp2
      go_ret
      exact ⟨by first|rfl|(simp [errW_none,errW_some]<;>rfl)|(simp [*,errW_none,errW_some]<;>rfl),by repeat (first|(with_reducible first|exact HB.out|apply below_alloc|apply pw_below_drewN|apply below_drew1|refine below_set ?_ GE328.out|refine below_set ?_ GE329.out)|exact HB.out)⟩
    ·rw [if_neg c11] at H
     have c11b0:(a0_2.toList == a1_2.toList)=false:=beq_eq_false_iff_ne.mpr c11
     have c11b1:(a0_2.toList != a1_2.toList)=true:=bne_iff_ne.mpr c11
     obtain rfl:=Option.some.inj H
     have hnb25:=NB328_329.out
     have hnc25:=NB329_328.out
     have hcz26_0:w5.cell? ⟨gb328,0,none⟩=some (.int .i64 a0_0):=(blk_cell BK328.out 0).trans rfl
     have hcz26_1:w5.cell? ⟨gb328,1,none⟩=some (.int .i64 a0_1):=(blk_cell BK328.out 1).trans rfl
     have hcz26_2:w5.cell? ⟨gb328,2,none⟩=some (.string a0_2):=(blk_cell BK328.out 2).trans rfl
     have hcz26_3:w5.cell? ⟨gb328,3,none⟩=some (.slice A0_3 l0_3.length c0_3):=(blk_cell BK328.out 3).trans rfl
     have hcz26_4:w5.cell? ⟨gb328,4,none⟩=some (.slice A0_4 l0_4.length c0_4):=(blk_cell BK328.out 4).trans rfl
     have hfz26_0:=blk_frozen BK328.out 0
     have hfz26_1:=blk_frozen BK328.out 1
     have hfz26_2:=blk_frozen BK328.out 2
     have hfz26_3:=blk_frozen BK328.out 3
     have hfz26_4:=blk_frozen BK328.out 4
     have hcz27_0:w5.cell? ⟨gb329,0,none⟩=some (.int .i64 a1_0):=(blk_cell BK329.out 0).trans rfl
     have hcz27_1:w5.cell? ⟨gb329,1,none⟩=some (.int .i64 a1_1):=(blk_cell BK329.out 1).trans rfl
     have hcz27_2:w5.cell? ⟨gb329,2,none⟩=some (.string a1_2):=(blk_cell BK329.out 2).trans rfl
     have hcz27_3:w5.cell? ⟨gb329,3,none⟩=some (.slice A1_3 l1_3.length c1_3):=(blk_cell BK329.out 3).trans rfl
     have hcz27_4:w5.cell? ⟨gb329,4,none⟩=some (.slice A1_4 l1_4.length c1_4):=(blk_cell BK329.out 4).trans rfl
     have hfz27_0:=blk_frozen BK329.out 0
     have hfz27_1:=blk_frozen BK329.out 1
     have hfz27_2:=blk_frozen BK329.out 2
     have hfz27_3:=blk_frozen BK329.out 3
     have hfz27_4:=blk_frozen BK329.out 4
     go_wp2
     go_ret
     exact ⟨by first|rfl|(simp [errW_none,errW_some]<;>rfl)|(simp [*,errW_none,errW_some]<;>rfl),by repeat (first|(with_reducible first|exact HB.out|apply below_alloc|apply pw_below_drewN|apply below_drew1|refine below_set ?_ GE328.out|refine below_set ?_ GE329.out)|exact HB.out)⟩
   ·rw [if_neg c10] at H
    have c10b0:(a0_1 == a1_1)=false:=beq_eq_false_iff_ne.mpr c10
    have c10b1:(a0_1 != a1_1)=true:=bne_iff_ne.mpr c10
    obtain rfl:=Option.some.inj H
    have hnb28:=NB328_329.out
    have hnc28:=NB329_328.out
    have hcz29_0:w5.cell? ⟨gb328,0,none⟩=some (.int .i64 a0_0):=(blk_cell BK328.out 0).trans rfl
    have hcz29_1:w5.cell? ⟨gb328,1,none⟩=some (.int .i64 a0_1):=(blk_cell BK328.out 1).trans rfl
    have hcz29_2:w5.cell? ⟨gb328,2,none⟩=some (.string a0_2):=(blk_cell BK328.out 2).trans rfl
    have hcz29_3:w5.cell? ⟨gb328,3,none⟩=some (.slice A0_3 l0_3.length c0_3):=(blk_cell BK328.out 3).trans rfl
    have hcz29_4:w5.cell? ⟨gb328,4,none⟩=some (.slice A0_4 l0_4.length c0_4):=(blk_cell BK328.out 4).trans rfl
    have hfz29_0:=blk_frozen BK328.out 0
    have hfz29_1:=blk_frozen BK328.out 1
    have hfz29_2:=blk_frozen BK328.out 2
    have hfz29_3:=blk_frozen BK328.out 3
    have hfz29_4:=blk_frozen BK328.out 4
    have hcz30_0:w5.cell? ⟨gb329,0,none⟩=some (.int .i64 a1_0):=(blk_cell BK329.out 0).trans rfl
    have hcz30_1:w5.cell? ⟨gb329,1,none⟩=some (.int .i64 a1_1):=(blk_cell BK329.out 1).trans rfl
    have hcz30_2:w5.cell? ⟨gb329,2,none⟩=some (.string a1_2):=(blk_cell BK329.out 2).trans rfl
    have hcz30_3:w5.cell? ⟨gb329,3,none⟩=some (.slice A1_3 l1_3.length c1_3):=(blk_cell BK329.out 3).trans rfl
    have hcz30_4:w5.cell? ⟨gb329,4,none⟩=some (.slice A1_4 l1_4.length c1_4):=(blk_cell BK329.out 4).trans rfl
    have hfz30_0:=blk_frozen BK329.out 0
    have hfz30_1:=blk_frozen BK329.out 1
    have hfz30_2:=blk_frozen BK329.out 2
    have hfz30_3:=blk_frozen BK329.out 3
    have hfz30_4:=blk_frozen BK329.out 4
    go_wp2
    go_ret
    exact ⟨by first|rfl|(simp [errW_none,errW_some]<;>rfl)|(simp [*,errW_none,errW_some]<;>rfl),by repeat (first|(with_reducible first|exact HB.out|apply below_alloc|apply pw_below_drewN|apply below_drew1|refine below_set ?_ GE328.out|refine below_set ?_ GE329.out)|exact HB.out)⟩
  ·rw [if_neg c9] at H
   have c9b0:(a0_0 == a1_0)=false:=beq_eq_false_iff_ne.mpr c9
   have c9b1:(a0_0 != a1_0)=true:=bne_iff_ne.mpr c9
   (first|rw [c9b0]|rw [c9b1]|(simp only [i64_w,i32_w]; rw [c9b0])|skip)
   obtain rfl:=Option.some.inj H
   go_wp2
   go_ret
   exact ⟨by first|rfl|(simp [errW_none,errW_some]<;>rfl)|(simp [*,errW_none,errW_some]<;>rfl),by repeat (first|(with_reducible first|exact HB.out|apply below_alloc|apply pw_below_drewN|apply below_drew1|refine below_set ?_ GE328.out|refine below_set ?_ GE329.out)|exact HB.out)⟩
 ·skip
  intro A0 c0 l0 A1 c1 l1 r w hr0 hc0 hr1 hc1 h
  cases k with
  |zero=>exact absurd h (by simp [laws_eqNodeS.f])
  |succ k =>
  simp only [laws_eqNodeS.f] at h
  have hu33:=Try.underlying33
  have HR0:=Aside0.mk hr0
  have HC0:=Aside0.mk hc0
  clear hr0 hc0
  have HR1:=Aside0.mk hr1
  have HC1:=Aside0.mk hc1
  clear hr1 hc1
  have HB:=Aside0.mk (Below.refl w.heap.size w)
  have H:(if (l0.length:Int)=(l1.length:Int) then (laws_eqNodeS.l0 k l0 l1 0) else (some false))=some r:=h
  clear h
  by_cases c3:(l0.length:Int)=(l1.length:Int)
  ·rw [if_pos c3] at H
   have c3b0:((l0.length:Int) == (l1.length:Int))=true:=beq_iff_eq.mpr c3
   have c3b1:((l0.length:Int) != (l1.length:Int))=false:=bne_eq_false_iff_eq.mpr c3
   have c3b2:(l0.length == l1.length)=true:=by first|simpa using c3|(simp at c3 ⊢; omega)
   clear c3
   have H':=Aside0.mk H
   clear H
   go_enter Try.func34,Try.ntmps34
   go_wp2
   go_loopg [5] k (fun kq v5 w'=>∃ (x5_1:Int),v5=.int .i64 x5_1∧Aside0 (laws_eqNodeS.l0 kq l0 l1 x5_1=some r)∧Aside0 (kq≤k)∧Aside0 (Below w.heap.size w w'))
   case atStart=>exact ⟨(0),(by first|rfl|(simp; done)|(simp [*]; done)),H',⟨Nat.le_refl _⟩,⟨by repeat (first|(with_reducible first|exact HB.out|apply below_alloc|apply pw_below_drewN|apply below_drew1)|exact HB.out)⟩⟩
   case round =>
    clear H'
    try clear c1
    try clear p2
    try clear c3
    try clear c3b0
    try clear c3b1
    try clear c3b2
    obtain ⟨x5_1,rfl,HA,HK1,HB⟩:=hrel
    cases gk with
    |zero=>exact absurd HA.out (by simp [laws_eqNodeS.l0])
    |succ k1 =>
     have H:=HA.out
     clear HA
     simp only [laws_eqNodeS.l0] at H
     by_cases c4:x5_1<(l0.length:Int)
     ·rw [if_pos c4] at H
      have c4b0:decide (x5_1<(l0.length:Int))=true:=decide_eq_true c4
      clear c4
      by_cases c5:0≤x5_1
      ·rw [if_pos c5] at H
       have c5b0:decide (0≤x5_1)=true:=decide_eq_true c5
       clear c5
       by_cases c6:x5_1<(l1.length:Int)
       ·rw [if_pos c6] at H
        have c6b0:decide (x5_1<(l1.length:Int))=true:=decide_eq_true c6
        clear c6
        replace H:=Option.bind_eq_some_iff.mp H
        obtain ⟨t334,A70,H⟩:=H
        replace H:(if t334=true then (laws_eqNodeS.l0 k1 l0 l1 (wrap64 (x5_1+1))) else (some false))=some r:=H
        have A7:=Aside0.mk A70
        clear A70
        have HC8:=Aside0.mk H
        clear H
        try go_wp2
        have n0_:=Aside0.mk (below_drew1 HB.out)
        clear HB
        have HB:=n0_
        clear n0_
        have p332:0≤(x5_1:Int):=of_decide_eq_true (by first|(with_reducible assumption)|assumption)
        have q332:x5_1<(l0.length:Int):=of_decide_eq_true (by first|(with_reducible assumption)|assumption)
        obtain ⟨ad332,A332_3,c332_3,A332_4,c332_4,e332,hx332_0,hx332_1,hx332_2,hx332_3,hx332_4,hl332_3,hi332_3,hl332_4,hi332_4⟩:=at_T33 HR0.out x5_1 p332 q332
        have hw332_4:=hx332_4
        have hw332_3:=hx332_3
        have hw332_2:=hx332_2
        have hw332_1:=hx332_1
        have hw332_0:=hx332_0
        cases e332
        replace hx332_0:=(HB.out.cell (World.block_lt_of_cell? w _ hx332_0)).trans hx332_0
        replace hx332_1:=(HB.out.cell (World.block_lt_of_cell? w _ hx332_1)).trans hx332_1
        replace hx332_2:=(HB.out.cell (World.block_lt_of_cell? w _ hx332_2)).trans hx332_2
        replace hx332_3:=(HB.out.cell (World.block_lt_of_cell? w _ hx332_3)).trans hx332_3
        replace hx332_4:=(HB.out.cell (World.block_lt_of_cell? w _ hx332_4)).trans hx332_4
        have HR332_3:=Aside0.mk hi332_3
        have HC332_3:=Aside0.mk hl332_3
        clear hi332_3 hl332_3
        have HR332_4:=Aside0.mk hi332_4
        have HC332_4:=Aside0.mk hl332_4
        clear hi332_4 hl332_4
        replace p332:=eq_true p332
        replace q332:=eq_true q332
        have p333:0≤(x5_1:Int):=of_decide_eq_true (by first|(with_reducible assumption)|assumption)
        have q333:x5_1<(l1.length:Int):=of_decide_eq_true (by first|(with_reducible assumption)|assumption)
        obtain ⟨ad333,A333_3,c333_3,A333_4,c333_4,e333,hx333_0,hx333_1,hx333_2,hx333_3,hx333_4,hl333_3,hi333_3,hl333_4,hi333_4⟩:=at_T33 HR1.out x5_1 p333 q333
        have hw333_4:=hx333_4
        have hw333_3:=hx333_3
        have hw333_2:=hx333_2
        have hw333_1:=hx333_1
        have hw333_0:=hx333_0
        cases e333
        replace hx333_0:=(HB.out.cell (World.block_lt_of_cell? w _ hx333_0)).trans hx333_0
        replace hx333_1:=(HB.out.cell (World.block_lt_of_cell? w _ hx333_1)).trans hx333_1
        replace hx333_2:=(HB.out.cell (World.block_lt_of_cell? w _ hx333_2)).trans hx333_2
        replace hx333_3:=(HB.out.cell (World.block_lt_of_cell? w _ hx333_3)).trans hx333_3
        replace hx333_4:=(HB.out.cell (World.block_lt_of_cell? w _ hx333_4)).trans hx333_4
        have HR333_3:=Aside0.mk hi333_3
        have HC333_3:=Aside0.mk hl333_3
        clear hi333_3 hl333_3
        have HR333_4:=Aside0.mk hi333_4
        have HC333_4:=Aside0.mk hl333_4
        clear hi333_4 hl333_4
        replace p333:=eq_true p333
        replace q333:=eq_true q333
        refine start_ (n:=10) (S:=fun w'=>w'.cell? (ad332.add ((x5_1).toNat*5))=some (.int .i64 ((rd_T33 l0 x5_1).f0))∧w'.cell? ⟨(ad332.add ((x5_1).toNat*5)).block,(ad332.add ((x5_1).toNat*5)).off+1,none⟩=some (.int .i64 ((rd_T33 l0 x5_1).f1))∧w'.cell? ⟨(ad332.add ((x5_1).toNat*5)).block,(ad332.add ((x5_1).toNat*5)).off+2,none⟩=some (.string ((rd_T33 l0 x5_1).f2))∧w'.cell? ⟨(ad332.add ((x5_1).toNat*5)).block,(ad332.add ((x5_1).toNat*5)).off+3,none⟩=some (.slice A332_3 ((rd_T33 l0 x5_1).f3).length c332_3)∧w'.cell? ⟨(ad332.add ((x5_1).toNat*5)).block,(ad332.add ((x5_1).toNat*5)).off+4,none⟩=some (.slice A332_4 ((rd_T33 l0 x5_1).f4).length c332_4)∧w'.cell? (ad333.add ((x5_1).toNat*5))=some (.int .i64 ((rd_T33 l1 x5_1).f0))∧w'.cell? ⟨(ad333.add ((x5_1).toNat*5)).block,(ad333.add ((x5_1).toNat*5)).off+1,none⟩=some (.int .i64 ((rd_T33 l1 x5_1).f1))∧w'.cell? ⟨(ad333.add ((x5_1).toNat*5)).block,(ad333.add ((x5_1).toNat*5)).off+2,none⟩=some (.string ((rd_T33 l1 x5_1).f2))∧w'.cell? ⟨(ad333.add ((x5_1).toNat*5)).block,(ad333.add ((x5_1).toNat*5)).off+3,none⟩=some (.slice A333_3 ((rd_T33 l1 x5_1).f3).length c333_3)∧w'.cell? ⟨(ad333.add ((x5_1).toNat*5)).block,(ad333.add ((x5_1).toNat*5)).off+4,none⟩=some (.slice A333_4 ((rd_T33 l1 x5_1).f4).length c333_4)) (ds:=[]) #[false,false,false,false,false,false,false,false,false,false] (by kernel_rfl) rfl rfl ⟨((HB.out.cell (World.block_lt_of_cell? w _ hw332_0)).trans hw332_0),((HB.out.cell (World.block_lt_of_cell? w _ hw332_1)).trans hw332_1),((HB.out.cell (World.block_lt_of_cell? w _ hw332_2)).trans hw332_2),((HB.out.cell (World.block_lt_of_cell? w _ hw332_3)).trans hw332_3),((HB.out.cell (World.block_lt_of_cell? w _ hw332_4)).trans hw332_4),((HB.out.cell (World.block_lt_of_cell? w _ hw333_0)).trans hw333_0),((HB.out.cell (World.block_lt_of_cell? w _ hw333_1)).trans hw333_1),((HB.out.cell (World.block_lt_of_cell? w _ hw333_2)).trans hw333_2),((HB.out.cell (World.block_lt_of_cell? w _ hw333_3)).trans hw333_3),((HB.out.cell (World.block_lt_of_cell? w _ hw333_4)).trans hw333_4)⟩ (fun hHeld=>?_); refine with_tabW laws_eqNodeS.tab6 laws_eqNodeS.bits6 (fun HT_ HW_=>?_)
        generalize wr.drew=w9 at HB HR332_3 HR332_4 HR333_3 HR333_4 hx332_0 hx332_1 hx332_2 hx332_3 hx332_4 hx333_0 hx333_1 hx333_2 hx333_3 hx333_4 hHeld ⊢
        refine pure_ (i:=0) (N:=some 17) (v:=_) (a':=_) (bs_ 10 1) rfl rfl (any_of HT_.out (by kernel_rfl)) (fun _ _ _ h=>h) (Or.inl ⟨by rfl,by intro w'; go_simp; first|with_reducible rfl|rfl⟩) (by simp only [Act.put,List.setIfInBounds_toArray,List.set_cons_zero,List.set_cons_succ,i64_w,i32_w]; rfl) ?_
        refine pure_ (i:=1) (N:=some 18) (v:=_) (a':=_) (bs_ 10 3) rfl rfl (any_of HT_.out (by kernel_rfl)) (fun _ _ _ h=>h) (Or.inl ⟨by rfl,by intro w'; go_simp; first|with_reducible rfl|rfl⟩) (by simp only [Act.put,List.setIfInBounds_toArray,List.set_cons_zero,List.set_cons_succ,i64_w,i32_w]; rfl) ?_
        refine pure_ (i:=2) (N:=some 19) (v:=_) (a':=_) (bs_ 10 7) rfl rfl (any_of HT_.out (by kernel_rfl)) (fun _ _ _ h=>h) (Or.inl ⟨by rfl,by intro w'; go_simp; first|with_reducible rfl|rfl⟩) (by simp only [Act.put,List.setIfInBounds_toArray,List.set_cons_zero,List.set_cons_succ,i64_w,i32_w]; rfl) ?_
        refine pure_ (i:=4) (N:=some 21) (v:=_) (a':=_) (bs_ 10 23) rfl rfl (any_of HT_.out (by kernel_rfl)) (fun _ _ _ h=>h) (Or.inl ⟨by rfl,by intro w'; go_simp; first|with_reducible rfl|rfl⟩) (by simp only [Act.put,List.setIfInBounds_toArray,List.set_cons_zero,List.set_cons_succ,i64_w,i32_w]; rfl) ?_
        refine pure_ (i:=5) (N:=some 22) (v:=_) (a':=_) (bs_ 10 55) rfl rfl (any_of HT_.out (by kernel_rfl)) (fun _ _ _ h=>h) (Or.inl ⟨by rfl,by intro w'; go_simp; first|with_reducible rfl|rfl⟩) (by simp only [Act.put,List.setIfInBounds_toArray,List.set_cons_zero,List.set_cons_succ,i64_w,i32_w]; rfl) ?_
        refine pure_ (i:=6) (N:=some 23) (v:=_) (a':=_) (bs_ 10 119) rfl rfl (any_of HT_.out (by kernel_rfl)) (fun _ _ _ h=>h) (Or.inl ⟨by rfl,by intro w'; go_simp; first|with_reducible rfl|rfl⟩) (by simp only [Act.put,List.setIfInBounds_toArray,List.set_cons_zero,List.set_cons_succ,i64_w,i32_w]; rfl) ?_
        refine take_ (i:=3) (N:=some 20) (v:=?_) (a':=?_) (bs_ 10 127) rfl rfl (take_ofW HT_.out HW_.out (by kernel_rfl)) (fun _ _ _ h=>h) (Or.inl ⟨by rfl,?_⟩) hHeld ?_ ?_
        rotate_left
        ·rintro w' ⟨s0,s1,s2,s3,s4,s5,s6,s7,s8,s9⟩
         go_simp
         (first|with_reducible rfl|rfl)
        rotate_left
        ·simp only [Act.put,List.setIfInBounds_toArray,List.set_cons_zero,List.set_cons_succ,i64_w,i32_w]
         rfl
        refine take_ (i:=7) (N:=some 24) (v:=?_) (a':=?_) (bs_ 10 255) rfl rfl (take_ofW HT_.out HW_.out (by kernel_rfl)) (fun _ _ _ h=>h) (Or.inl ⟨by rfl,?_⟩) hHeld ?_ ?_
        rotate_left
        ·rintro w' ⟨s0,s1,s2,s3,s4,s5,s6,s7,s8,s9⟩
         go_simp
         (first|with_reducible rfl|rfl)
        rotate_left
        ·simp only [Act.put,List.setIfInBounds_toArray,List.set_cons_zero,List.set_cons_succ,i64_w,i32_w]
         rfl
        refine one_ (i:=8) (N:=some 25) (bs_ 10 511) rfl rfl (one_of HT_.out (by kernel_rfl)) (by decide) (fun K hK=>?_)
        refine goes_ Try.func10 (by kernel_rfl) rfl #[.agg #[.int .i64 ((rd_T33 l0 x5_1).f0),.int .i64 ((rd_T33 l0 x5_1).f1),.string ((rd_T33 l0 x5_1).f2),.slice A332_3 ((rd_T33 l0 x5_1).f3).length c332_3,.slice A332_4 ((rd_T33 l0 x5_1).f4).length c332_4],.agg #[.int .i64 ((rd_T33 l1 x5_1).f0),.int .i64 ((rd_T33 l1 x5_1).f1),.string ((rd_T33 l1 x5_1).f2),.slice A333_3 ((rd_T33 l1 x5_1).f3).length c333_3,.slice A333_4 ((rd_T33 l1 x5_1).f4).length c333_4]] (by rfl) rfl rfl (by (try simp only [List.map_toArray,List.map_cons,List.map_nil]); first|done|rfl|(simp only [List.length_drop,List.length_take]; rfl)) ?_
        with_reducible refine (ih_laws_eqNode k1 (by have:=HK1.out; omega) ((rd_T33 l0 x5_1).f0) ((rd_T33 l0 x5_1).f1) ((rd_T33 l0 x5_1).f2) _ _ ((rd_T33 l0 x5_1).f3) _ _ ((rd_T33 l0 x5_1).f4) ((rd_T33 l1 x5_1).f0) ((rd_T33 l1 x5_1).f1) ((rd_T33 l1 x5_1).f2) _ _ ((rd_T33 l1 x5_1).f3) _ _ ((rd_T33 l1 x5_1).f4) t334 _ ?side1 ?side2 ?side3 ?side4 ?side5 ?side6 ?side7 ?side8 A7.out).mono ?_
        (case side1=>repeat (first|exact (Kd.C_below HR332_3.out HB.out)|(with_reducible refine Kd.C_alloc ?_ _)|(with_reducible refine Kd.C_drewN ?_ _)|(with_reducible refine Kd.C_drew ?_)))
        (case side2=>exact HC332_3.out)
        (case side3=>repeat (first|exact (Kd.C_below HR332_4.out HB.out)|(with_reducible refine Kd.C_alloc ?_ _)|(with_reducible refine Kd.C_drewN ?_ _)|(with_reducible refine Kd.C_drew ?_)))
        (case side4=>exact HC332_4.out)
        (case side5=>repeat (first|exact (Kd.C_below HR333_3.out HB.out)|(with_reducible refine Kd.C_alloc ?_ _)|(with_reducible refine Kd.C_drewN ?_ _)|(with_reducible refine Kd.C_drew ?_)))
        (case side6=>exact HC333_3.out)
        (case side7=>repeat (first|exact (Kd.C_below HR333_4.out HB.out)|(with_reducible refine Kd.C_alloc ?_ _)|(with_reducible refine Kd.C_drewN ?_ _)|(with_reducible refine Kd.C_drew ?_)))
        (case side8=>exact HC333_4.out)
        rintro e w10 ⟨rfl,hb⟩
        refine ⟨_,rfl,?_⟩
        have n0_:=Aside0.mk (below_step (by repeat (first|(with_reducible first|exact HB.out|apply below_alloc|apply pw_below_drewN|apply below_drew1)|exact HB.out)) hb)
        clear HB
        have HB:=n0_
        clear n0_
        (try clear hb)
        (try clear hb2)
        (try clear hk)
        (try clear hi)
        refine hK.out _ _ ⟨((HB.out.cell (World.block_lt_of_cell? w _ hw332_0)).trans hw332_0),((HB.out.cell (World.block_lt_of_cell? w _ hw332_1)).trans hw332_1),((HB.out.cell (World.block_lt_of_cell? w _ hw332_2)).trans hw332_2),((HB.out.cell (World.block_lt_of_cell? w _ hw332_3)).trans hw332_3),((HB.out.cell (World.block_lt_of_cell? w _ hw332_4)).trans hw332_4),((HB.out.cell (World.block_lt_of_cell? w _ hw333_0)).trans hw333_0),((HB.out.cell (World.block_lt_of_cell? w _ hw333_1)).trans hw333_1),((HB.out.cell (World.block_lt_of_cell? w _ hw333_2)).trans hw333_2),((HB.out.cell (World.block_lt_of_cell? w _ hw333_3)).trans hw333_3),((HB.out.cell (World.block_lt_of_cell? w _ hw333_4)).trans hw333_4)⟩ (fun hHeld=>?_)
        clear hK K
        refine norm_ (a':=?_) ?_ ?_
        rotate_left
        ·show Act.put _ (some 25) _=_
         simp only [Act.put,List.setIfInBounds_toArray,List.set_cons_zero,List.set_cons_succ,i64_w,i32_w]
         rfl
        refine pure_ (i:=9) (N:=some 26) (v:=_) (a':=_) (bs_ 10 1023) rfl rfl (any_of HT_.out (by kernel_rfl)) (fun _ _ _ h=>h) (Or.inl ⟨by rfl,by intro w'; go_simp; first|with_reducible rfl|rfl⟩) (by simp only [Act.put,List.setIfInBounds_toArray,List.set_cons_zero,List.set_cons_succ,i64_w,i32_w]; rfl) ?_
        refine done_ (done_of HT_.out (by kernel_rfl)) ?_
        go_upto_if 26 with (fail)
        try clear hw332_0; try clear hw332_1; try clear hw332_2; try clear hw332_3; try clear hw332_4; try clear hw333_0; try clear hw333_1; try clear hw333_2; try clear hw333_3; try clear hw333_4; try clear hx332_0; try clear hx332_1; try clear hx332_2; try clear hx332_3; try clear hx332_4; try clear hx333_0; try clear hx333_1; try clear hx333_2; try clear hx333_3; try clear hx333_4; try clear hHeld
        have H:=HC8.out
        clear HC8
        by_cases c11:t334=true
        ·subst c11
         have H1:(laws_eqNodeS.l0 k1 l0 l1 (wrap64 (x5_1+1)))=some r:=by rw [if_pos rfl] at H; exact H
         clear H
         have H:=H1
         clear H1
         have H':=Aside0.mk H
         clear H
         go_wp2
         go_roundg k1
         case measure=>have:=HK1.out; omega
         case rel=>exact ⟨(wrap64 (x5_1+1)),(by first|rfl|(simp; done)|(simp [*]; done)),H',⟨by have:=HK1.out; omega⟩,⟨by repeat (first|(with_reducible first|exact HB.out|apply below_alloc|apply pw_below_drewN|apply below_drew1)|exact HB.out)⟩⟩
        ·replace c11:=Bool.eq_false_iff.mpr c11
         subst c11
         have H1:(some false)=some r:=by rw [if_neg (show ¬ (false=true) by decide)] at H; exact H
         clear H
         have H:=H1
         clear H1
         obtain rfl:=Option.some.inj H
         go_wp2
         go_ret
         exact ⟨by first|rfl|(simp [errW_none,errW_some]<;>rfl)|(simp [*,errW_none,errW_some]<;>rfl),by repeat (first|(with_reducible first|exact HB.out|apply below_alloc|apply pw_below_drewN|apply below_drew1)|exact HB.out)⟩
       ·rw [if_neg c6] at H
        exact absurd H (by simp)
      ·rw [if_neg c5] at H
       exact absurd H (by simp)
     ·rw [if_neg c4] at H
      have c4b0:decide (x5_1<(l0.length:Int))=false:=decide_eq_false c4
      clear c4
      obtain rfl:=Option.some.inj H
      go_wp2
      go_ret
      exact ⟨by first|rfl|(simp [errW_none,errW_some]<;>rfl)|(simp [*,errW_none,errW_some]<;>rfl),by repeat (first|(with_reducible first|exact HB.out|apply below_alloc|apply pw_below_drewN|apply below_drew1)|exact HB.out)⟩
  ·rw [if_neg c3] at H
   have c3b0:((l0.length:Int) == (l1.length:Int))=false:=beq_eq_false_iff_ne.mpr c3
   have c3b1:((l0.length:Int) != (l1.length:Int))=true:=bne_iff_ne.mpr c3
   have c3b2:(l0.length == l1.length)=false:=by first|simpa using c3|(simp at c3 ⊢; omega)
   obtain rfl:=Option.some.inj H
   go_enter Try.func34,Try.ntmps34
   go_wp2
   go_ret
   exact ⟨by first|rfl|(simp [errW_none,errW_some]<;>rfl)|(simp [*,errW_none,errW_some]<;>rfl),by repeat (first|(with_reducible first|exact HB.out|apply below_alloc|apply pw_below_drewN|apply below_drew1)|exact HB.out)⟩
theorem laws_eqNode.calls (k:Nat):∀ (a0_0:Int) (a0_1:Int) (a0_2:ByteArray) (A0_3:Option Addr) (c0_3:Nat) (l0_3:List ByteArray) (A0_4:Option Addr) (c0_4:Nat) (l0_4:List (S33)) (a1_0:Int) (a1_1:Int) (a1_2:ByteArray) (A1_3:Option Addr) (c1_3:Nat) (l1_3:List ByteArray) (A1_4:Option Addr) (c1_4:Nat) (l1_4:List (S33)) (r:Bool) (w:World) (hr0_3:Kd.C Kd.string w A0_3 l0_3.length l0_3) (hc0_3:l0_3.length≤c0_3) (hr0_4:Kd.C k33 w A0_4 l0_4.length l0_4) (hc0_4:l0_4.length≤c0_4) (hr1_3:Kd.C Kd.string w A1_3 l1_3.length l1_3) (hc1_3:l1_3.length≤c1_3) (hr1_4:Kd.C k33 w A1_4 l1_4.length l1_4) (hc1_4:l1_4.length≤c1_4) (h:laws_eqNode.f k a0_0 a0_1 a0_2 l0_3 l0_4 a1_0 a1_1 a1_2 l1_3 l1_4=some r),
  Calls Try.prog 10 #[.agg #[.int .i64 a0_0,.int .i64 a0_1,.string a0_2,.slice A0_3 l0_3.length c0_3,.slice A0_4 l0_4.length c0_4],.agg #[.int .i64 a1_0,.int .i64 a1_1,.string a1_2,.slice A1_3 l1_3.length c1_3,.slice A1_4 l1_4.length c1_4]] w fun e w'=>e=.returned (.bool r)∧Below w.heap.size w w':=(laws_eqNode.calls_all k).1
theorem laws_eqNodeS.calls (k:Nat):∀ (A0:Option Addr) (c0:Nat) (l0:List (S33)) (A1:Option Addr) (c1:Nat) (l1:List (S33)) (r:Bool) (w:World) (hr0:Kd.C k33 w A0 l0.length l0) (hc0:l0.length≤c0) (hr1:Kd.C k33 w A1 l1.length l1) (hc1:l1.length≤c1) (h:laws_eqNodeS.f k l0 l1=some r),
  Calls Try.prog 34 #[.slice A0 l0.length c0,.slice A1 l1.length c1] w fun e w'=>e=.returned (.bool r)∧Below w.heap.size w w':=(laws_eqNode.calls_all k).2
end
end Go.Proofs.Ytdlhidjphaaklaa.P
