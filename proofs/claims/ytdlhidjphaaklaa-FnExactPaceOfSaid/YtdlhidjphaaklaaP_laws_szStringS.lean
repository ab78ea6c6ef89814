import Derived.Test.YtdlhidjphaaklaaP0
namespace Go.Proofs.Ytdlhidjphaaklaa.P
open Go.RowKit Go.Proofs.YtdlhidjphaaklaaW.PrintWords Go.Proofs.YtdlhidjphaaklaaW.PrintLast Go.Proofs.YtdlhidjphaaklaaW.PrintMore
attribute [local go_sem] max2_int min2_int max_two min_two max_three min_three max_four min_four
set_option linter.unusedVariables false
set_option linter.unusedSimpArgs false
noncomputable section
def laws_szStringS.l0:Nat→List ByteArray→Int→Int→Option (Int)
 |0,_,_,_=>none
 |k+1,x0,x1,x5=>if x5<(x0.length:Int) then (if 0≤x5 then (if (wrap64 (x1-((rdOf ByteArray.empty x0 x5).size:Int)))<0 then (some (-1)) else (laws_szStringS.l0 k x0 (wrap64 (x1-((rdOf ByteArray.empty x0 x5).size:Int))) (wrap64 (x5+1)))) else (none)) else (some x1)
def laws_szStringS.f (k:Nat) (l0:List ByteArray) (a1:Int):Option (Int):=if (wrap64 (a1-(l0.length:Int)))<0 then (some (-1)) else (laws_szStringS.l0 k l0 (wrap64 (a1-(l0.length:Int))) 0)
theorem laws_szStringS.mono_l:∀ k,(∀ y0 y1 y2,LeO (laws_szStringS.l0 k y0 y1 y2) (laws_szStringS.l0 (k+1) y0 y1 y2))
 |0=>fun _ _ _ r h=>by simp [laws_szStringS.l0] at h
 |k+1=>by
  have ih0:=laws_szStringS.mono_l k
  ·intro y0 y1 y2
   unfold laws_szStringS.l0
   repeat' first
   |(with_reducible exact ih0 _ _ _)
   |(with_reducible exact LeO.refl _)
   |(with_reducible exact LeO.none _)
   |(with_reducible refine LeO.ite ?_ ?_)
   |(with_reducible refine LeO.bind ?_ (fun _=>?_))
   |exact ih0 _ _ _
   |exact LeO.none _
   |refine LeO.ite ?_ ?_
   |refine LeO.bind ?_ (fun _=>?_)
theorem laws_szStringS.mono:∀ a0 a1 k,LeO (laws_szStringS.f k a0 a1) (laws_szStringS.f (k+1) a0 a1):=by
 intro a0 a1 k
 have ih0:=laws_szStringS.mono_l k
 unfold laws_szStringS.f
 repeat' first
   |(with_reducible exact ih0 _ _ _)
   |(with_reducible exact LeO.refl _)
   |(with_reducible exact LeO.none _)
   |(with_reducible refine LeO.ite ?_ ?_)
   |(with_reducible refine LeO.bind ?_ (fun _=>?_))
   |exact ih0 _ _ _
   |exact LeO.none _
   |refine LeO.ite ?_ ?_
   |refine LeO.bind ?_ (fun _=>?_)
set_option maxHeartbeats 8000000 in
set_option maxRecDepth 100000 in
theorem laws_szStringS.calls (k:Nat) (A0:Option Addr) (c0:Nat) (l0:List ByteArray) (a1:Int) (r:Int) (w:World) (hr0:Kd.C Kd.string w A0 l0.length l0) (hc0:l0.length≤c0) (h:laws_szStringS.f k l0 a1=some r) :
  Calls Try.prog 17 #[.slice A0 l0.length c0,.int .i64 a1] w fun e w'=>e=.returned (.int .i64 r)∧Drawn0 w w':=by
 have HR0:=Aside0.mk hr0
 have HC0:=Aside0.mk hc0
 clear hr0 hc0
 have H:(if (wrap64 (a1-(l0.length:Int)))<0 then (some (-1)) else (laws_szStringS.l0 k l0 (wrap64 (a1-(l0.length:Int))) 0))=some r:=h
 clear h
 by_cases c3:(wrap64 (a1-(l0.length:Int)))<0
 ·rw [if_pos c3] at H
  have c3b0:decide ((wrap64 (a1-(l0.length:Int)))<0)=true:=decide_eq_true c3
  clear c3
  obtain rfl:=Option.some.inj H
  go_enter Try.func17,Try.ntmps17
  go_wp2
  go_ret
  exact ⟨by first|rfl|(simp; done)|(simp [*]; done),by repeat (first|exact Drawn0.refl _|apply Drawn0.step)⟩
 ·rw [if_neg c3] at H
  have c3b0:decide ((wrap64 (a1-(l0.length:Int)))<0)=false:=decide_eq_false c3
  clear c3
  have H':=Aside0.mk H
  clear H
  go_enter Try.func17,Try.ntmps17
  go_wp2
  go_loopg [1,5] k (fun kq v1 v5 w'=>∃ (x1_1:Int) (x5_1:Int),v1=.int .i64 x1_1∧v5=.int .i64 x5_1∧Aside0 (laws_szStringS.l0 kq l0 x1_1 x5_1=some r)∧Aside0 (kq≤k)∧Drawn0 w w')
  case atStart=>exact ⟨(wrap64 (a1-(l0.length:Int))),(0),(by first|rfl|(simp; done)|(simp [*]; done)),(by first|rfl|(simp; done)|(simp [*]; done)),H',⟨Nat.le_refl _⟩,by repeat (first|exact Drawn0.refl _|apply Drawn0.step)⟩
  case round =>
   clear H'
   try clear c1
   try clear p2
   try clear c3
   try clear c3b0
   obtain ⟨x1_1,x5_1,rfl,rfl,HA,HK1,⟨m1,rfl⟩⟩:=hrel
   cases gk with
   |zero=>exact absurd HA.out (by simp [laws_szStringS.l0])
   |succ k1 =>
    have H:=HA.out
    clear HA
    simp only [laws_szStringS.l0] at H
    by_cases c4:x5_1<(l0.length:Int)
    ·rw [if_pos c4] at H
     have c4b0:decide (x5_1<(l0.length:Int))=true:=decide_eq_true c4
     clear c4
     by_cases c5:0≤x5_1
     ·rw [if_pos c5] at H
      have c5b0:decide (0≤x5_1)=true:=decide_eq_true c5
      clear c5
      by_cases c6:(wrap64 (x1_1-((rdOf ByteArray.empty l0 x5_1).size:Int)))<0
      ·rw [if_pos c6] at H
       have c6b0:decide ((wrap64 (x1_1-((rdOf ByteArray.empty l0 x5_1).size:Int)))<0)=true:=decide_eq_true c6
       clear c6
       obtain rfl:=Option.some.inj H
       have p101:0≤(x5_1:Int):=of_decide_eq_true (by first|(with_reducible assumption)|assumption)
       have q101:x5_1<(l0.length:Int):=of_decide_eq_true (by first|(with_reducible assumption)|assumption)
       obtain ⟨ad101,e101,hx101_0⟩:=Kd.at_string HR0.out x5_1 p101 q101
       cases e101
       replace p101:=eq_true p101
       replace q101:=eq_true q101
       go_wp2
       go_ret
       exact ⟨by first|rfl|(simp; done)|(simp [*]; done),by repeat (first|exact Drawn0.refl _|apply Drawn0.step)⟩
      ·rw [if_neg c6] at H
       have c6b0:decide ((wrap64 (x1_1-((rdOf ByteArray.empty l0 x5_1).size:Int)))<0)=false:=decide_eq_false c6
       clear c6
       have H':=Aside0.mk H
       clear H
       have p101:0≤(x5_1:Int):=of_decide_eq_true (by first|(with_reducible assumption)|assumption)
       have q101:x5_1<(l0.length:Int):=of_decide_eq_true (by first|(with_reducible assumption)|assumption)
       obtain ⟨ad101,e101,hx101_0⟩:=Kd.at_string HR0.out x5_1 p101 q101
       cases e101
       replace p101:=eq_true p101
       replace q101:=eq_true q101
       go_wp2
       go_roundg k1
       case measure=>have:=HK1.out; omega
       case rel=>exact ⟨(wrap64 (x1_1-((rdOf ByteArray.empty l0 x5_1).size:Int))),(wrap64 (x5_1+1)),(by first|rfl|(simp; done)|(simp [*]; done)),(by first|rfl|(simp; done)|(simp [*]; done)),H',⟨by have:=HK1.out; omega⟩,by repeat (first|exact Drawn0.refl _|apply Drawn0.step)⟩
     ·rw [if_neg c5] at H
      exact absurd H (by simp)
    ·rw [if_neg c4] at H
     have c4b0:decide (x5_1<(l0.length:Int))=false:=decide_eq_false c4
     clear c4
     obtain rfl:=Option.some.inj H
     go_wp2
     go_ret
     exact ⟨by first|rfl|(simp; done)|(simp [*]; done),by repeat (first|exact Drawn0.refl _|apply Drawn0.step)⟩
mutual
def laws_szNode.f:Nat→Int→Int→ByteArray→List ByteArray→List (S25)→Int→Option (Int)
 |0,_,_,_,_,_,_=>none
 |k+1,a0_0,a0_1,a0_2,l0_3,l0_4,a1=>if (wrap64 (a1-(a0_2.size:Int)))<0 then (some (-1)) else ((laws_szStringS.f k l0_3 (wrap64 (a1-(a0_2.size:Int)))).bind fun t103=>(if t103<0 then (some (-1)) else ((laws_szNodeS.f k l0_4 t103).bind fun t104=>(if t104<0 then (some (-1)) else (some t104)))))
def laws_szNodeS.l0:Nat→List (S25)→Int→Int→Option (Int)
 |0,_,_,_=>none
 |k+1,x0,x1,x5=>if x5<(x0.length:Int) then (if 0≤x5 then ((laws_szNode.f k ((rd_T25 x0 x5).f0) ((rd_T25 x0 x5).f1) ((rd_T25 x0 x5).f2) ((rd_T25 x0 x5).f3) ((rd_T25 x0 x5).f4) x1).bind fun t106=>(if t106<0 then (some (-1)) else (laws_szNodeS.l0 k x0 t106 (wrap64 (x5+1))))) else (none)) else (some x1)
def laws_szNodeS.f:Nat→List (S25)→Int→Option (Int)
 |0,_,_=>none
 |k+1,l0,a1=>if (wrap64 (a1-(l0.length:Int)))<0 then (some (-1)) else (laws_szNodeS.l0 k l0 (wrap64 (a1-(l0.length:Int))) 0)
end
theorem laws_szNode.mono_l:∀ k,(∀ y0 y1 y2 y3 y4 y5,LeO (laws_szNode.f k y0 y1 y2 y3 y4 y5) (laws_szNode.f (k+1) y0 y1 y2 y3 y4 y5))∧(∀ y0 y1 y2,LeO (laws_szNodeS.l0 k y0 y1 y2) (laws_szNodeS.l0 (k+1) y0 y1 y2))∧(∀ y0 y1,LeO (laws_szNodeS.f k y0 y1) (laws_szNodeS.f (k+1) y0 y1))
 |0=>⟨fun _ _ _ _ _ _ r h=>by simp [laws_szNode.f] at h,fun _ _ _ r h=>by simp [laws_szNodeS.l0] at h,fun _ _ r h=>by simp [laws_szNodeS.f] at h⟩
 |k+1=>by
  obtain ⟨ih0,ih1,ih2⟩:=laws_szNode.mono_l k
  refine ⟨?_,?_,?_⟩
  ·intro y0 y1 y2 y3 y4 y5
   unfold laws_szNode.f
   repeat' first
   |(with_reducible exact ih0 _ _ _ _ _ _)
   |(with_reducible exact ih1 _ _ _)
   |(with_reducible exact ih2 _ _)
   |(with_reducible exact laws_szStringS.mono _ _ _)
   |(with_reducible exact LeO.refl _)
   |(with_reducible exact LeO.none _)
   |(with_reducible refine LeO.ite ?_ ?_)
   |(with_reducible refine LeO.bind ?_ (fun _=>?_))
   |exact ih0 _ _ _ _ _ _
   |exact ih1 _ _ _
   |exact ih2 _ _
   |exact laws_szStringS.mono _ _ _
   |exact LeO.none _
   |refine LeO.ite ?_ ?_
   |refine LeO.bind ?_ (fun _=>?_)
  ·intro y0 y1 y2
   unfold laws_szNodeS.l0
   repeat' first
   |(with_reducible exact ih0 _ _ _ _ _ _)
   |(with_reducible exact ih1 _ _ _)
   |(with_reducible exact ih2 _ _)
   |(with_reducible exact laws_szStringS.mono _ _ _)
   |(with_reducible exact LeO.refl _)
   |(with_reducible exact LeO.none _)
   |(with_reducible refine LeO.ite ?_ ?_)
   |(with_reducible refine LeO.bind ?_ (fun _=>?_))
   |exact ih0 _ _ _ _ _ _
   |exact ih1 _ _ _
   |exact ih2 _ _
   |exact laws_szStringS.mono _ _ _
   |exact LeO.none _
   |refine LeO.ite ?_ ?_
   |refine LeO.bind ?_ (fun _=>?_)
  ·intro y0 y1
   unfold laws_szNodeS.f
   repeat' first
   |(with_reducible exact ih0 _ _ _ _ _ _)
   |(with_reducible exact ih1 _ _ _)
   |(with_reducible exact ih2 _ _)
   |(with_reducible exact laws_szStringS.mono _ _ _)
   |(with_reducible exact LeO.refl _)
   |(with_reducible exact LeO.none _)
   |(with_reducible refine LeO.ite ?_ ?_)
   |(with_reducible refine LeO.bind ?_ (fun _=>?_))
   |exact ih0 _ _ _ _ _ _
   |exact ih1 _ _ _
   |exact ih2 _ _
   |exact laws_szStringS.mono _ _ _
   |exact LeO.none _
   |refine LeO.ite ?_ ?_
   |refine LeO.bind ?_ (fun _=>?_)
theorem laws_szNode.mono:∀ a0 a1 a2 a3 a4 a5 k,LeO (laws_szNode.f k a0 a1 a2 a3 a4 a5) (laws_szNode.f (k+1) a0 a1 a2 a3 a4 a5):=by
 intro a0 a1 a2 a3 a4 a5 k
 obtain ⟨ih0,ih1,ih2⟩:=laws_szNode.mono_l k
 exact ih0 a0 a1 a2 a3 a4 a5
theorem laws_szNodeS.mono:∀ a0 a1 k,LeO (laws_szNodeS.f k a0 a1) (laws_szNodeS.f (k+1) a0 a1):=by
 intro a0 a1 k
 obtain ⟨ih0,ih1,ih2⟩:=laws_szNode.mono_l k
 exact ih2 a0 a1
set_option maxHeartbeats 8000000 in
set_option maxRecDepth 100000 in
theorem laws_szNode.calls_all (k:Nat):(∀ (a0_0:Int) (a0_1:Int) (a0_2:ByteArray) (A0_3:Option Addr) (c0_3:Nat) (l0_3:List ByteArray) (A0_4:Option Addr) (c0_4:Nat) (l0_4:List (S25)) (a1:Int) (r:Int) (w:World) (hr0_3:Kd.C Kd.string w A0_3 l0_3.length l0_3) (hc0_3:l0_3.length≤c0_3) (hr0_4:Kd.C k25 w A0_4 l0_4.length l0_4) (hc0_4:l0_4.length≤c0_4) (h:laws_szNode.f k a0_0 a0_1 a0_2 l0_3 l0_4 a1=some r),
  Calls Try.prog 5 #[.agg #[.int .i64 a0_0,.int .i64 a0_1,.string a0_2,.slice A0_3 l0_3.length c0_3,.slice A0_4 l0_4.length c0_4],.int .i64 a1] w fun e w'=>e=.returned (.int .i64 r)∧Below w.heap.size w w')∧(∀ (A0:Option Addr) (c0:Nat) (l0:List (S25)) (a1:Int) (r:Int) (w:World) (hr0:Kd.C k25 w A0 l0.length l0) (hc0:l0.length≤c0) (h:laws_szNodeS.f k l0 a1=some r),
  Calls Try.prog 18 #[.slice A0 l0.length c0,.int .i64 a1] w fun e w'=>e=.returned (.int .i64 r)∧Below w.heap.size w w'):=by
 induction k using Nat.strongRecOn with
 |_ k ihall =>
 have ih_laws_szNode:=fun k' h'=>(ihall k' h').1
 have ih_laws_szNodeS:=fun k' h'=>(ihall k' h').2
 clear ihall
 refine ⟨?_,?_⟩
 ·skip
  intro a0_0 a0_1 a0_2 A0_3 c0_3 l0_3 A0_4 c0_4 l0_4 a1 r w hr0_3 hc0_3 hr0_4 hc0_4 h
  cases k with
  |zero=>exact absurd h (by simp [laws_szNode.f])
  |succ k =>
  simp only [laws_szNode.f] at h
  have hu25:=Try.underlying25
  have HR0_3:=Aside0.mk hr0_3
  have HC0_3:=Aside0.mk hc0_3
  clear hr0_3 hc0_3
  have HR0_4:=Aside0.mk hr0_4
  have HC0_4:=Aside0.mk hc0_4
  clear hr0_4 hc0_4
  have HB:=Aside0.mk (Below.refl w.heap.size w)
  have H:(if (wrap64 (a1-(a0_2.size:Int)))<0 then (some (-1)) else ((laws_szStringS.f k l0_3 (wrap64 (a1-(a0_2.size:Int)))).bind fun t103=>(if t103<0 then (some (-1)) else ((laws_szNodeS.f k l0_4 t103).bind fun t104=>(if t104<0 then (some (-1)) else (some t104))))))=some r:=h
  clear h
  have HC3:=Aside0.mk H
  clear H
  go_enter Try.func5,Try.ntmps5
  go_upto_if 11 with (first|((with_reducible refine gate_dst (N:=2) rfl ?_); refine box_event ?hg (N:=2) ?hd (cs:=#[.int .i64 a0_0,.int .i64 a0_1,.string a0_2,.slice A0_3 l0_3.length c0_3,.slice A0_4 l0_4.length c0_4]) (t:=25) ?hr ?_; (case hd=>rfl); (case hg=>rfl); (case hr=>first|(go_simp; done)|(go_simp; rfl)); intro gb102 hg w4 hbox hb; have n0_:=Aside0.mk (below_step (by repeat (first|(with_reducible first|exact HB.out|apply below_alloc|apply pw_below_drewN|apply below_drew1)|exact HB.out)) hb); have n1_:=Aside0.mk (hbox); have n2_:=Aside0.mk ((by rw [hg]; exact (below_size (by repeat (first|(with_reducible first|exact HB.out|apply below_alloc|apply pw_below_drewN|apply below_drew1)|exact HB.out))):w.heap.size≤gb102)); have n3_:=Aside0.mk ((by rw [hg]; exact (below_size (by repeat (first|(with_reducible first|exact HB.out|apply below_alloc|apply pw_below_drewN|apply below_drew1)|exact HB.out))):w.heap.size≤gb102)); clear HB; have HB:=n0_; have BK102:=n1_; have GW102:=n2_; have GE102:=n3_; clear n0_ n1_ n2_ n3_; clear hb hbox hg; have hcz5_0:w4.cell? ⟨gb102,0,none⟩=some (.int .i64 a0_0):=(blk_cell BK102.out 0).trans rfl; have hcz5_1:w4.cell? ⟨gb102,1,none⟩=some (.int .i64 a0_1):=(blk_cell BK102.out 1).trans rfl; have hcz5_2:w4.cell? ⟨gb102,2,none⟩=some (.string a0_2):=(blk_cell BK102.out 2).trans rfl; have hcz5_3:w4.cell? ⟨gb102,3,none⟩=some (.slice A0_3 l0_3.length c0_3):=(blk_cell BK102.out 3).trans rfl; have hcz5_4:w4.cell? ⟨gb102,4,none⟩=some (.slice A0_4 l0_4.length c0_4):=(blk_cell BK102.out 4).trans rfl; have hfz5_0:=blk_frozen BK102.out 0; have hfz5_1:=blk_frozen BK102.out 1; have hfz5_2:=blk_frozen BK102.out 2; have hfz5_3:=blk_frozen BK102.out 3; have hfz5_4:=blk_frozen BK102.out 4))
  (try simp only [Act.put,List.setIfInBounds_toArray,List.set_cons_zero,List.set_cons_succ])
  have H:=HC3.out
  clear HC3
  by_cases c6:(wrap64 (a1-(a0_2.size:Int)))<0
  ·rw [if_pos c6] at H
   have c6b0:decide ((wrap64 (a1-(a0_2.size:Int)))<0)=true:=decide_eq_true c6
   clear c6
   (first|rw [c6b0]|(simp only [i64_w,i32_w]; rw [c6b0])|skip)
   obtain rfl:=Option.some.inj H
   go_wp2
   go_ret
   exact ⟨by first|rfl|(simp [errW_none,errW_some]<;>rfl)|(simp [*,errW_none,errW_some]<;>rfl),by repeat (first|(with_reducible first|exact HB.out|apply below_alloc|apply pw_below_drewN|apply below_drew1|refine below_set ?_ GE102.out)|exact HB.out)⟩
  ·rw [if_neg c6] at H
   have c6b0:decide ((wrap64 (a1-(a0_2.size:Int)))<0)=false:=decide_eq_false c6
   clear c6
   (first|rw [c6b0]|(simp only [i64_w,i32_w]; rw [c6b0])|skip)
   replace H:=Option.bind_eq_some_iff.mp H
   obtain ⟨t103,A70,H⟩:=H
   replace H:(if t103<0 then (some (-1)) else ((laws_szNodeS.f k l0_4 t103).bind fun t104=>(if t104<0 then (some (-1)) else (some t104))))=some r:=H
   have A7:=Aside0.mk A70
   clear A70
   have HC8:=Aside0.mk H
   clear H
   have hcz9_0:w4.cell? ⟨gb102,0,none⟩=some (.int .i64 a0_0):=(blk_cell BK102.out 0).trans rfl
   have hcz9_1:w4.cell? ⟨gb102,1,none⟩=some (.int .i64 a0_1):=(blk_cell BK102.out 1).trans rfl
   have hcz9_2:w4.cell? ⟨gb102,2,none⟩=some (.string a0_2):=(blk_cell BK102.out 2).trans rfl
   have hcz9_3:w4.cell? ⟨gb102,3,none⟩=some (.slice A0_3 l0_3.length c0_3):=(blk_cell BK102.out 3).trans rfl
   have hcz9_4:w4.cell? ⟨gb102,4,none⟩=some (.slice A0_4 l0_4.length c0_4):=(blk_cell BK102.out 4).trans rfl
   have hfz9_0:=blk_frozen BK102.out 0
   have hfz9_1:=blk_frozen BK102.out 1
   have hfz9_2:=blk_frozen BK102.out 2
   have hfz9_3:=blk_frozen BK102.out 3
   have hfz9_4:=blk_frozen BK102.out 4
   go_upto_if 17 with (first|((with_reducible refine gate_callee (f:=17) rfl ?_); refine goesL_ (some 15) rfl rfl Try.func17 (by kernel_rfl) rfl #[.slice A0_3 l0_3.length c0_3,.int .i64 (wrap64 (a1-(a0_2.size:Int)))] rfl (by (try simp only [List.map_toArray,List.map_cons,List.map_nil]); first|done|rfl|(simp only [List.length_drop,List.length_take]; rfl)) ?_; (with_reducible refine (laws_szStringS.calls k _ _ l0_3 (wrap64 (a1-(a0_2.size:Int))) t103 _ ?side1 ?side2 A7.out).mono ?_); (case side1=>repeat (first|exact (Kd.C_below HR0_3.out HB.out)|(with_reducible refine Kd.C_alloc ?_ _)|(with_reducible refine Kd.C_drewN ?_ _)|(with_reducible refine Kd.C_drew ?_))); (case side2=>exact HC0_3.out); rintro e w' ⟨rfl,⟨nd,rfl⟩⟩; refine ⟨_,rfl,?_⟩))
   (try simp only [Act.put,List.setIfInBounds_toArray,List.set_cons_zero,List.set_cons_succ])
   have H:=HC8.out
   clear HC8
   by_cases c10:t103<0
   ·rw [if_pos c10] at H
    have c10b0:decide (t103<0)=true:=decide_eq_true c10
    clear c10
    (first|rw [c10b0]|(simp only [i64_w,i32_w]; rw [c10b0])|skip)
    obtain rfl:=Option.some.inj H
    go_wp2
    go_ret
    exact ⟨by first|rfl|(simp [errW_none,errW_some]<;>rfl)|(simp [*,errW_none,errW_some]<;>rfl),by repeat (first|(with_reducible first|exact HB.out|apply below_alloc|apply pw_below_drewN|apply below_drew1|refine below_set ?_ GE102.out)|exact HB.out)⟩
   ·rw [if_neg c10] at H
    have c10b0:decide (t103<0)=false:=decide_eq_false c10
    clear c10
    (first|rw [c10b0]|(simp only [i64_w,i32_w]; rw [c10b0])|skip)
    replace H:=Option.bind_eq_some_iff.mp H
    obtain ⟨t104,A110,H⟩:=H
    replace H:(if t104<0 then (some (-1)) else (some t104))=some r:=H
    have A11:=Aside0.mk A110
    clear A110
    have HC12:=Aside0.mk H
    clear H
    have hcz13_0:w4.cell? ⟨gb102,0,none⟩=some (.int .i64 a0_0):=(blk_cell BK102.out 0).trans rfl
    have hcz13_1:w4.cell? ⟨gb102,1,none⟩=some (.int .i64 a0_1):=(blk_cell BK102.out 1).trans rfl
    have hcz13_2:w4.cell? ⟨gb102,2,none⟩=some (.string a0_2):=(blk_cell BK102.out 2).trans rfl
    have hcz13_3:w4.cell? ⟨gb102,3,none⟩=some (.slice A0_3 l0_3.length c0_3):=(blk_cell BK102.out 3).trans rfl
    have hcz13_4:w4.cell? ⟨gb102,4,none⟩=some (.slice A0_4 l0_4.length c0_4):=(blk_cell BK102.out 4).trans rfl
    have hfz13_0:=blk_frozen BK102.out 0
    have hfz13_1:=blk_frozen BK102.out 1
    have hfz13_2:=blk_frozen BK102.out 2
    have hfz13_3:=blk_frozen BK102.out 3
    have hfz13_4:=blk_frozen BK102.out 4
    go_upto_if 23 with (first|((with_reducible refine gate_callee (f:=18) rfl ?_); refine goesL_ (some 21) rfl rfl Try.func18 (by kernel_rfl) rfl #[.slice A0_4 l0_4.length c0_4,.int .i64 t103] rfl (by (try simp only [List.map_toArray,List.map_cons,List.map_nil]); first|done|rfl|(simp only [List.length_drop,List.length_take]; rfl)) ?_; (with_reducible refine (ih_laws_szNodeS k (by omega) _ _ l0_4 t103 t104 _ ?side1 ?side2 A11.out).mono ?_); (case side1=>repeat (first|exact (Kd.C_below HR0_4.out HB.out)|(with_reducible refine Kd.C_alloc ?_ _)|(with_reducible refine Kd.C_drewN ?_ _)|(with_reducible refine Kd.C_drew ?_))); (case side2=>exact HC0_4.out); rintro e w14 ⟨rfl,hb⟩; refine ⟨_,rfl,?_⟩; have n0_:=Aside0.mk (blk_below (g:=gb102) (o:=.cells #[.int .i64 a0_0,.int .i64 a0_1,.string a0_2,.slice A0_3 l0_3.length c0_3,.slice A0_4 l0_4.length c0_4] 25 (0,0)) (by (with_reducible repeat (first|refine blk_drewN ?_ _|refine blk_drew ?_|refine blk_alloc ?_ _)); exact BK102.out) hb); have n1_:=Aside0.mk (below_step (by repeat (first|(with_reducible first|exact HB.out|apply below_alloc|apply pw_below_drewN|apply below_drew1|refine below_set ?_ GE102.out)|exact HB.out)) hb); clear BK102; clear HB; have BK102:=n0_; have HB:=n1_; clear n0_ n1_; (try clear hb); (try clear hb2); (try clear hk); (try clear hi)))
    (try simp only [Act.put,List.setIfInBounds_toArray,List.set_cons_zero,List.set_cons_succ])
    have H:=HC12.out
    clear HC12
    by_cases c15:t104<0
    ·rw [if_pos c15] at H
     have c15b0:decide (t104<0)=true:=decide_eq_true c15
     clear c15
     (first|rw [c15b0]|(simp only [i64_w,i32_w]; rw [c15b0])|skip)
     obtain rfl:=Option.some.inj H
     go_wp2
     go_ret
     exact ⟨by first|rfl|(simp [errW_none,errW_some]<;>rfl)|(simp [*,errW_none,errW_some]<;>rfl),by repeat (first|(with_reducible first|exact HB.out|apply below_alloc|apply pw_below_drewN|apply below_drew1|refine below_set ?_ GE102.out)|exact HB.out)⟩
    ·rw [if_neg c15] at H
     have c15b0:decide (t104<0)=false:=decide_eq_false c15
     clear c15
     (first|rw [c15b0]|(simp only [i64_w,i32_w]; rw [c15b0])|skip)
     obtain rfl:=Option.some.inj H
     go_wp2
     go_ret
     exact ⟨by first|rfl|(simp [errW_none,errW_some]<;>rfl)|(simp [*,errW_none,errW_some]<;>rfl),by repeat (first|(with_reducible first|exact HB.out|apply below_alloc|apply pw_below_drewN|apply below_drew1|refine below_set ?_ GE102.out)|exact HB.out)⟩
 ·skip
  intro A0 c0 l0 a1 r w hr0 hc0 h
  cases k with
  |zero=>exact absurd h (by simp [laws_szNodeS.f])
  |succ k =>
  simp only [laws_szNodeS.f] at h
  have hu25:=Try.underlying25
  have HR0:=Aside0.mk hr0
  have HC0:=Aside0.mk hc0
  clear hr0 hc0
  have HB:=Aside0.mk (Below.refl w.heap.size w)
  have H:(if (wrap64 (a1-(l0.length:Int)))<0 then (some (-1)) else (laws_szNodeS.l0 k l0 (wrap64 (a1-(l0.length:Int))) 0))=some r:=h
  clear h
  by_cases c3:(wrap64 (a1-(l0.length:Int)))<0
  ·rw [if_pos c3] at H
   have c3b0:decide ((wrap64 (a1-(l0.length:Int)))<0)=true:=decide_eq_true c3
   clear c3
   obtain rfl:=Option.some.inj H
   go_enter Try.func18,Try.ntmps18
   go_wp2
   go_ret
   exact ⟨by first|rfl|(simp [errW_none,errW_some]<;>rfl)|(simp [*,errW_none,errW_some]<;>rfl),by repeat (first|(with_reducible first|exact HB.out|apply below_alloc|apply pw_below_drewN|apply below_drew1)|exact HB.out)⟩
  ·rw [if_neg c3] at H
   have c3b0:decide ((wrap64 (a1-(l0.length:Int)))<0)=false:=decide_eq_false c3
   clear c3
   have H':=Aside0.mk H
   clear H
   go_enter Try.func18,Try.ntmps18
   go_wp2
   go_loopg [1,5] k (fun kq v1 v5 w'=>∃ (x1_1:Int) (x5_1:Int),v1=.int .i64 x1_1∧v5=.int .i64 x5_1∧Aside0 (laws_szNodeS.l0 kq l0 x1_1 x5_1=some r)∧Aside0 (kq≤k)∧Aside0 (Below w.heap.size w w'))
   case atStart=>exact ⟨(wrap64 (a1-(l0.length:Int))),(0),(by first|rfl|(simp; done)|(simp [*]; done)),(by first|rfl|(simp; done)|(simp [*]; done)),H',⟨Nat.le_refl _⟩,⟨by repeat (first|(with_reducible first|exact HB.out|apply below_alloc|apply pw_below_drewN|apply below_drew1)|exact HB.out)⟩⟩
   case round =>
    clear H'
    try clear c1
    try clear p2
    try clear c3
    try clear c3b0
    obtain ⟨x1_1,x5_1,rfl,rfl,HA,HK1,HB⟩:=hrel
    cases gk with
    |zero=>exact absurd HA.out (by simp [laws_szNodeS.l0])
    |succ k1 =>
     have H:=HA.out
     clear HA
     simp only [laws_szNodeS.l0] at H
     by_cases c4:x5_1<(l0.length:Int)
     ·rw [if_pos c4] at H
      have c4b0:decide (x5_1<(l0.length:Int))=true:=decide_eq_true c4
      clear c4
      by_cases c5:0≤x5_1
      ·rw [if_pos c5] at H
       have c5b0:decide (0≤x5_1)=true:=decide_eq_true c5
       clear c5
       replace H:=Option.bind_eq_some_iff.mp H
       obtain ⟨t106,A60,H⟩:=H
       replace H:(if t106<0 then (some (-1)) else (laws_szNodeS.l0 k1 l0 t106 (wrap64 (x5_1+1))))=some r:=H
       have A6:=Aside0.mk A60
       clear A60
       have HC7:=Aside0.mk H
       clear H
       have p105:0≤(x5_1:Int):=of_decide_eq_true (by first|(with_reducible assumption)|assumption)
       have q105:x5_1<(l0.length:Int):=of_decide_eq_true (by first|(with_reducible assumption)|assumption)
       obtain ⟨ad105,A105_3,c105_3,A105_4,c105_4,e105,hx105_0,hx105_1,hx105_2,hx105_3,hx105_4,hl105_3,hi105_3,hl105_4,hi105_4⟩:=at_T25 HR0.out x5_1 p105 q105
       cases e105
       replace hx105_0:=(HB.out.cell (World.block_lt_of_cell? w _ hx105_0)).trans hx105_0
       replace hx105_1:=(HB.out.cell (World.block_lt_of_cell? w _ hx105_1)).trans hx105_1
       replace hx105_2:=(HB.out.cell (World.block_lt_of_cell? w _ hx105_2)).trans hx105_2
       replace hx105_3:=(HB.out.cell (World.block_lt_of_cell? w _ hx105_3)).trans hx105_3
       replace hx105_4:=(HB.out.cell (World.block_lt_of_cell? w _ hx105_4)).trans hx105_4
       have HR105_3:=Aside0.mk hi105_3
       have HC105_3:=Aside0.mk hl105_3
       clear hi105_3 hl105_3
       have HR105_4:=Aside0.mk hi105_4
       have HC105_4:=Aside0.mk hl105_4
       clear hi105_4 hl105_4
       replace p105:=eq_true p105
       replace q105:=eq_true q105
       go_upto_if 25 with (first|((with_reducible refine gate_callee (f:=5) rfl ?_); refine goesL_ (some 23) rfl rfl Try.func5 (by kernel_rfl) rfl #[.agg #[.int .i64 ((rd_T25 l0 x5_1).f0),.int .i64 ((rd_T25 l0 x5_1).f1),.string ((rd_T25 l0 x5_1).f2),.slice A105_3 ((rd_T25 l0 x5_1).f3).length c105_3,.slice A105_4 ((rd_T25 l0 x5_1).f4).length c105_4],.int .i64 x1_1] rfl (by (try simp only [List.map_toArray,List.map_cons,List.map_nil]); first|done|rfl|(simp only [List.length_drop,List.length_take]; rfl)) ?_; (with_reducible refine (ih_laws_szNode k1 (by have:=HK1.out; omega) ((rd_T25 l0 x5_1).f0) ((rd_T25 l0 x5_1).f1) ((rd_T25 l0 x5_1).f2) _ _ ((rd_T25 l0 x5_1).f3) _ _ ((rd_T25 l0 x5_1).f4) x1_1 t106 _ ?side1 ?side2 ?side3 ?side4 A6.out).mono ?_); (case side1=>repeat (first|exact (Kd.C_below HR105_3.out HB.out)|(with_reducible refine Kd.C_alloc ?_ _)|(with_reducible refine Kd.C_drewN ?_ _)|(with_reducible refine Kd.C_drew ?_))); (case side2=>exact HC105_3.out); (case side3=>repeat (first|exact (Kd.C_below HR105_4.out HB.out)|(with_reducible refine Kd.C_alloc ?_ _)|(with_reducible refine Kd.C_drewN ?_ _)|(with_reducible refine Kd.C_drew ?_))); (case side4=>exact HC105_4.out); rintro e w8 ⟨rfl,hb⟩; refine ⟨_,rfl,?_⟩; have n0_:=Aside0.mk (below_step (by repeat (first|(with_reducible first|exact HB.out|apply below_alloc|apply pw_below_drewN|apply below_drew1)|exact HB.out)) hb); clear HB; have HB:=n0_; clear n0_; (try clear hb); (try clear hb2); (try clear hk); (try clear hi)))
       (try simp only [Act.put,List.setIfInBounds_toArray,List.set_cons_zero,List.set_cons_succ])
       try clear hx105_0; try clear hx105_1; try clear hx105_2; try clear hx105_3; try clear hx105_4
       have H:=HC7.out
       clear HC7
       by_cases c9:t106<0
       ·rw [if_pos c9] at H
        have c9b0:decide (t106<0)=true:=decide_eq_true c9
        clear c9
        (first|rw [c9b0]|(simp only [i64_w,i32_w]; rw [c9b0])|skip)
        obtain rfl:=Option.some.inj H
        go_wp2
        go_ret
        exact ⟨by first|rfl|(simp [errW_none,errW_some]<;>rfl)|(simp [*,errW_none,errW_some]<;>rfl),by repeat (first|(with_reducible first|exact HB.out|apply below_alloc|apply pw_below_drewN|apply below_drew1)|exact HB.out)⟩
       ·rw [if_neg c9] at H
        have c9b0:decide (t106<0)=false:=decide_eq_false c9
        clear c9
        (first|rw [c9b0]|(simp only [i64_w,i32_w]; rw [c9b0])|skip)
        have H':=Aside0.mk H
        clear H
        go_wp2
        go_roundg k1
        case measure=>have:=HK1.out; omega
        case rel=>exact ⟨(t106),(wrap64 (x5_1+1)),(by first|rfl|(simp; done)|(simp [*]; done)),(by first|rfl|(simp; done)|(simp [*]; done)),H',⟨by have:=HK1.out; omega⟩,⟨by repeat (first|(with_reducible first|exact HB.out|apply below_alloc|apply pw_below_drewN|apply below_drew1)|exact HB.out)⟩⟩
      ·rw [if_neg c5] at H
       exact absurd H (by simp)
     ·rw [if_neg c4] at H
      have c4b0:decide (x5_1<(l0.length:Int))=false:=decide_eq_false c4
      clear c4
      obtain rfl:=Option.some.inj H
      go_wp2
      go_ret
      exact ⟨by first|rfl|(simp [errW_none,errW_some]<;>rfl)|(simp [*,errW_none,errW_some]<;>rfl),by repeat (first|(with_reducible first|exact HB.out|apply below_alloc|apply pw_below_drewN|apply below_drew1)|exact HB.out)⟩
theorem laws_szNode.calls (k:Nat):∀ (a0_0:Int) (a0_1:Int) (a0_2:ByteArray) (A0_3:Option Addr) (c0_3:Nat) (l0_3:List ByteArray) (A0_4:Option Addr) (c0_4:Nat) (l0_4:List (S25)) (a1:Int) (r:Int) (w:World) (hr0_3:Kd.C Kd.string w A0_3 l0_3.length l0_3) (hc0_3:l0_3.length≤c0_3) (hr0_4:Kd.C k25 w A0_4 l0_4.length l0_4) (hc0_4:l0_4.length≤c0_4) (h:laws_szNode.f k a0_0 a0_1 a0_2 l0_3 l0_4 a1=some r),
  Calls Try.prog 5 #[.agg #[.int .i64 a0_0,.int .i64 a0_1,.string a0_2,.slice A0_3 l0_3.length c0_3,.slice A0_4 l0_4.length c0_4],.int .i64 a1] w fun e w'=>e=.returned (.int .i64 r)∧Below w.heap.size w w':=(laws_szNode.calls_all k).1
theorem laws_szNodeS.calls (k:Nat):∀ (A0:Option Addr) (c0:Nat) (l0:List (S25)) (a1:Int) (r:Int) (w:World) (hr0:Kd.C k25 w A0 l0.length l0) (hc0:l0.length≤c0) (h:laws_szNodeS.f k l0 a1=some r),
  Calls Try.prog 18 #[.slice A0 l0.length c0,.int .i64 a1] w fun e w'=>e=.returned (.int .i64 r)∧Below w.heap.size w w':=(laws_szNode.calls_all k).2
def spec_l1Max.f (a0:Int) (a1:Int):Option (Int):=if a0 > a1 then (some a0) else (some a1)
set_option maxHeartbeats 8000000 in
set_option maxRecDepth 100000 in
theorem spec_l1Max.calls (a0:Int) (a1:Int) (r:Int) (w:World) (h:spec_l1Max.f a0 a1=some r) :
  Calls Try.prog 73 #[.int .i64 a0,.int .i64 a1] w fun e w'=>e=.returned (.int .i64 r)∧Drawn0 w w':=by
 have H:(if a0 > a1 then (some a0) else (some a1))=some r:=h
 clear h
 by_cases c3:a0 > a1
 ·rw [if_pos c3] at H
  have c3b0:decide (a1<a0)=true:=decide_eq_true c3
  clear c3
  obtain rfl:=Option.some.inj H
  go_enter Try.func73,Try.ntmps73
  go_wp2
  go_ret
  exact ⟨by first|rfl|(simp; done)|(simp [*]; done),by repeat (first|exact Drawn0.refl _|apply Drawn0.step)⟩
 ·rw [if_neg c3] at H
  have c3b0:decide (a1<a0)=false:=decide_eq_false c3
  clear c3
  obtain rfl:=Option.some.inj H
  go_enter Try.func73,Try.ntmps73
  go_wp2
  go_ret
  exact ⟨by first|rfl|(simp; done)|(simp [*]; done),by repeat (first|exact Drawn0.refl _|apply Drawn0.step)⟩
mutual
def spec_l3Deep.l0:Nat→Int→Int→Int→Int→ByteArray→List ByteArray→List (S33)→Option (Int)
 |0,_,_,_,_,_,_,_=>none
 |k+1,x3,x4,x108000,x108001,x108002,x108003,x108004=>if x4<(x108004.length:Int) then (if 0≤x4 then ((spec_l3Deep.f k ((rd_T33 x108004 x4).f0) ((rd_T33 x108004 x4).f1) ((rd_T33 x108004 x4).f2) ((rd_T33 x108004 x4).f3) ((rd_T33 x108004 x4).f4)).bind fun t109=>((spec_l1Max.f x3 t109).bind fun t110=>(spec_l3Deep.l0 k t110 (wrap64 (x4+1)) x108000 x108001 x108002 x108003 x108004))) else (none)) else (some (wrap64 (x3+1)))
def spec_l3Deep.f:Nat→Int→Int→ByteArray→List ByteArray→List (S33)→Option (Int)
 |0,_,_,_,_,_=>none
 |k+1,a0_0,a0_1,a0_2,l0_3,l0_4=>spec_l3Deep.l0 k 0 0 a0_0 a0_1 a0_2 l0_3 l0_4
end
theorem spec_l3Deep.mono_l:∀ k,(∀ y0 y1 y2 y3 y4,LeO (spec_l3Deep.f k y0 y1 y2 y3 y4) (spec_l3Deep.f (k+1) y0 y1 y2 y3 y4))∧(∀ y0 y1 y2 y3 y4 y5 y6,LeO (spec_l3Deep.l0 k y0 y1 y2 y3 y4 y5 y6) (spec_l3Deep.l0 (k+1) y0 y1 y2 y3 y4 y5 y6))
 |0=>⟨fun _ _ _ _ _ r h=>by simp [spec_l3Deep.f] at h,fun _ _ _ _ _ _ _ r h=>by simp [spec_l3Deep.l0] at h⟩
 |k+1=>by
  obtain ⟨ih0,ih1⟩:=spec_l3Deep.mono_l k
  refine ⟨?_,?_⟩
  ·intro y0 y1 y2 y3 y4
   unfold spec_l3Deep.f
   repeat' first
   |(with_reducible exact ih0 _ _ _ _ _)
   |(with_reducible exact ih1 _ _ _ _ _ _ _)
   |(with_reducible exact LeO.refl _)
   |(with_reducible exact LeO.none _)
   |(with_reducible refine LeO.ite ?_ ?_)
   |(with_reducible refine LeO.bind ?_ (fun _=>?_))
   |exact ih0 _ _ _ _ _
   |exact ih1 _ _ _ _ _ _ _
   |exact LeO.none _
   |refine LeO.ite ?_ ?_
   |refine LeO.bind ?_ (fun _=>?_)
  ·intro y0 y1 y2 y3 y4 y5 y6
   unfold spec_l3Deep.l0
   repeat' first
   |(with_reducible exact ih0 _ _ _ _ _)
   |(with_reducible exact ih1 _ _ _ _ _ _ _)
   |(with_reducible exact LeO.refl _)
   |(with_reducible exact LeO.none _)
   |(with_reducible refine LeO.ite ?_ ?_)
   |(with_reducible refine LeO.bind ?_ (fun _=>?_))
   |exact ih0 _ _ _ _ _
   |exact ih1 _ _ _ _ _ _ _
   |exact LeO.none _
   |refine LeO.ite ?_ ?_
   |refine LeO.bind ?_ (fun _=>?_)
theorem spec_l3Deep.mono:∀ a0 a1 a2 a3 a4 k,LeO (spec_l3Deep.f k a0 a1 a2 a3 a4) (spec_l3Deep.f (k+1) a0 a1 a2 a3 a4):=by
 intro a0 a1 a2 a3 a4 k
 obtain ⟨ih0,ih1⟩:=spec_l3Deep.mono_l k
 exact ih0 a0 a1 a2 a3 a4
set_option maxHeartbeats 8000000 in
set_option maxRecDepth 100000 in
theorem spec_l3Deep.calls (k:Nat):∀ (a0_0:Int) (a0_1:Int) (a0_2:ByteArray) (A0_3:Option Addr) (c0_3:Nat) (l0_3:List ByteArray) (A0_4:Option Addr) (c0_4:Nat) (l0_4:List (S33)) (r:Int) (w:World) (hr0_3:Kd.C Kd.string w A0_3 l0_3.length l0_3) (hc0_3:l0_3.length≤c0_3) (hr0_4:Kd.C k33 w A0_4 l0_4.length l0_4) (hc0_4:l0_4.length≤c0_4) (h:spec_l3Deep.f k a0_0 a0_1 a0_2 l0_3 l0_4=some r),
  Calls Try.prog 57 #[.agg #[.int .i64 a0_0,.int .i64 a0_1,.string a0_2,.slice A0_3 l0_3.length c0_3,.slice A0_4 l0_4.length c0_4]] w fun e w'=>e=.returned (.int .i64 r)∧Below w.heap.size w w':=by
 induction k using Nat.strongRecOn with
 |_ k ih =>
 intro a0_0 a0_1 a0_2 A0_3 c0_3 l0_3 A0_4 c0_4 l0_4 r w hr0_3 hc0_3 hr0_4 hc0_4 h
 cases k with
 |zero=>exact absurd h (by simp [spec_l3Deep.f])
 |succ k =>
 simp only [spec_l3Deep.f] at h
 have hu33:=Try.underlying33
 have HR0_3:=Aside0.mk hr0_3
 have HC0_3:=Aside0.mk hc0_3
 clear hr0_3 hc0_3
 have HR0_4:=Aside0.mk hr0_4
 have HC0_4:=Aside0.mk hc0_4
 clear hr0_4 hc0_4
 have HB:=Aside0.mk (Below.refl w.heap.size w)
 have H:(spec_l3Deep.l0 k 0 0 a0_0 a0_1 a0_2 l0_3 l0_4)=some r:=h
 clear h
 have H':=Aside0.mk H
 clear H
 go_enter Try.func57,Try.ntmps57
 go_wp2_with (first|((with_reducible refine gate_dst (N:=1) rfl ?_); refine box_event ?hg (N:=1) ?hd (cs:=#[.int .i64 a0_0,.int .i64 a0_1,.string a0_2,.slice A0_3 l0_3.length c0_3,.slice A0_4 l0_4.length c0_4]) (t:=33) ?hr ?_; (case hd=>rfl); (case hg=>rfl); (case hr=>first|(go_simp; done)|(go_simp; rfl)); intro gb107 hg w2 hbox hb; have n0_:=Aside0.mk (below_step (by repeat (first|(with_reducible first|exact HB.out|apply below_alloc|apply pw_below_drewN|apply below_drew1)|exact HB.out)) hb); have n1_:=Aside0.mk (hbox); have n2_:=Aside0.mk ((by rw [hg]; exact (below_size (by repeat (first|(with_reducible first|exact HB.out|apply below_alloc|apply pw_below_drewN|apply below_drew1)|exact HB.out))):w.heap.size≤gb107)); have n3_:=Aside0.mk ((by rw [hg]; exact (below_size (by repeat (first|(with_reducible first|exact HB.out|apply below_alloc|apply pw_below_drewN|apply below_drew1)|exact HB.out))):w.heap.size≤gb107)); clear HB; have HB:=n0_; have BK107:=n1_; have GW107:=n2_; have GE107:=n3_; clear n0_ n1_ n2_ n3_; clear hb hbox hg))
 go_loopg [3,4] k (fun kq v3 v4 w'=>∃ (x3_1:Int) (x4_1:Int),v3=.int .i64 x3_1∧v4=.int .i64 x4_1∧Aside0 (spec_l3Deep.l0 kq x3_1 x4_1 a0_0 a0_1 a0_2 l0_3 l0_4=some r)∧Aside0 (kq≤k)∧Aside0 (w'.heap[gb107]?=some (.cells #[.int .i64 a0_0,.int .i64 a0_1,.string a0_2,(.slice A0_3 l0_3.length c0_3),(.slice A0_4 l0_4.length c0_4)] 33 (0,0)))∧Aside0 (Below w.heap.size w w'))
 case atStart=>exact ⟨(0),(0),(by first|rfl|(simp; done)|(simp [*]; done)),(by first|rfl|(simp; done)|(simp [*]; done)),H',⟨Nat.le_refl _⟩,⟨by (with_reducible repeat (first|refine blk_drewN ?_ _|refine blk_drew ?_|refine blk_alloc ?_ _)); exact BK107.out⟩,⟨by repeat (first|(with_reducible first|exact HB.out|apply below_alloc|apply pw_below_drewN|apply below_drew1|refine below_set ?_ GE107.out)|exact HB.out)⟩⟩
 case round =>
  clear H'
  try clear p2
  obtain ⟨x3_1,x4_1,rfl,rfl,HA,HK1,BK107,HB⟩:=hrel
  cases gk with
  |zero=>exact absurd HA.out (by simp [spec_l3Deep.l0])
  |succ k1 =>
   have H:=HA.out
   clear HA
   simp only [spec_l3Deep.l0] at H
   by_cases c3:x4_1<(l0_4.length:Int)
   ·rw [if_pos c3] at H
    have c3b0:decide (x4_1<(l0_4.length:Int))=true:=decide_eq_true c3
    clear c3
    by_cases c4:0≤x4_1
    ·rw [if_pos c4] at H
     have c4b0:decide (0≤x4_1)=true:=decide_eq_true c4
     clear c4
     replace H:=Option.bind_eq_some_iff.mp H
     obtain ⟨t109,A50,H⟩:=H
     replace H:((spec_l1Max.f x3_1 t109).bind fun t110=>(spec_l3Deep.l0 k1 t110 (wrap64 (x4_1+1)) a0_0 a0_1 a0_2 l0_3 l0_4))=some r:=H
     have A5:=Aside0.mk A50
     clear A50
     replace H:=Option.bind_eq_some_iff.mp H
     obtain ⟨t110,A60,H⟩:=H
     replace H:(spec_l3Deep.l0 k1 t110 (wrap64 (x4_1+1)) a0_0 a0_1 a0_2 l0_3 l0_4)=some r:=H
     have A6:=Aside0.mk A60
     clear A60
     have H':=Aside0.mk H
     clear H
     have hcz7_0:wr.cell? ⟨gb107,0,none⟩=some (.int .i64 a0_0):=(blk_cell BK107.out 0).trans rfl
     have hcz7_1:wr.cell? ⟨gb107,1,none⟩=some (.int .i64 a0_1):=(blk_cell BK107.out 1).trans rfl
     have hcz7_2:wr.cell? ⟨gb107,2,none⟩=some (.string a0_2):=(blk_cell BK107.out 2).trans rfl
     have hcz7_3:wr.cell? ⟨gb107,3,none⟩=some (.slice A0_3 l0_3.length c0_3):=(blk_cell BK107.out 3).trans rfl
     have hcz7_4:wr.cell? ⟨gb107,4,none⟩=some (.slice A0_4 l0_4.length c0_4):=(blk_cell BK107.out 4).trans rfl
     have hfz7_0:=blk_frozen BK107.out 0
     have hfz7_1:=blk_frozen BK107.out 1
     have hfz7_2:=blk_frozen BK107.out 2
     have hfz7_3:=blk_frozen BK107.out 3
     have hfz7_4:=blk_frozen BK107.out 4
     have p108:0≤(x4_1:Int):=of_decide_eq_true (by first|(with_reducible assumption)|assumption)
     have q108:x4_1<(l0_4.length:Int):=of_decide_eq_true (by first|(with_reducible assumption)|assumption)
     obtain ⟨ad108,A108_3,c108_3,A108_4,c108_4,e108,hx108_0,hx108_1,hx108_2,hx108_3,hx108_4,hl108_3,hi108_3,hl108_4,hi108_4⟩:=at_T33 HR0_4.out x4_1 p108 q108
     cases e108
     replace hx108_0:=(HB.out.cell (World.block_lt_of_cell? w _ hx108_0)).trans hx108_0
     replace hx108_1:=(HB.out.cell (World.block_lt_of_cell? w _ hx108_1)).trans hx108_1
     replace hx108_2:=(HB.out.cell (World.block_lt_of_cell? w _ hx108_2)).trans hx108_2
     replace hx108_3:=(HB.out.cell (World.block_lt_of_cell? w _ hx108_3)).trans hx108_3
     replace hx108_4:=(HB.out.cell (World.block_lt_of_cell? w _ hx108_4)).trans hx108_4
     have HR108_3:=Aside0.mk hi108_3
     have HC108_3:=Aside0.mk hl108_3
     clear hi108_3 hl108_3
     have HR108_4:=Aside0.mk hi108_4
     have HC108_4:=Aside0.mk hl108_4
     clear hi108_4 hl108_4
     replace p108:=eq_true p108
     replace q108:=eq_true q108
     go_wp2_with (first|((with_reducible refine gate_callee (f:=57) rfl ?_); refine goesL_ (some 18) rfl rfl Try.func57 (by kernel_rfl) rfl #[.agg #[.int .i64 ((rd_T33 l0_4 x4_1).f0),.int .i64 ((rd_T33 l0_4 x4_1).f1),.string ((rd_T33 l0_4 x4_1).f2),.slice A108_3 ((rd_T33 l0_4 x4_1).f3).length c108_3,.slice A108_4 ((rd_T33 l0_4 x4_1).f4).length c108_4]] rfl (by (try simp only [List.map_toArray,List.map_cons,List.map_nil]); first|done|rfl|(simp only [List.length_drop,List.length_take]; rfl)) ?_; (with_reducible refine (ih k1 (by have:=HK1.out; omega) ((rd_T33 l0_4 x4_1).f0) ((rd_T33 l0_4 x4_1).f1) ((rd_T33 l0_4 x4_1).f2) _ _ ((rd_T33 l0_4 x4_1).f3) _ _ ((rd_T33 l0_4 x4_1).f4) t109 _ ?side1 ?side2 ?side3 ?side4 A5.out).mono ?_); (case side1=>repeat (first|exact (Kd.C_below HR108_3.out HB.out)|(with_reducible refine Kd.C_alloc ?_ _)|(with_reducible refine Kd.C_drewN ?_ _)|(with_reducible refine Kd.C_drew ?_))); (case side2=>exact HC108_3.out); (case side3=>repeat (first|exact (Kd.C_below HR108_4.out HB.out)|(with_reducible refine Kd.C_alloc ?_ _)|(with_reducible refine Kd.C_drewN ?_ _)|(with_reducible refine Kd.C_drew ?_))); (case side4=>exact HC108_4.out); rintro e w8 ⟨rfl,hb⟩; refine ⟨_,rfl,?_⟩; have n0_:=Aside0.mk (blk_below (g:=gb107) (o:=.cells #[.int .i64 a0_0,.int .i64 a0_1,.string a0_2,.slice A0_3 l0_3.length c0_3,.slice (some ad108) l0_4.length c0_4] 33 (0,0)) (by (with_reducible repeat (first|refine blk_drewN ?_ _|refine blk_drew ?_|refine blk_alloc ?_ _)); exact BK107.out) hb); have n1_:=Aside0.mk (below_step (by repeat (first|(with_reducible first|exact HB.out|apply below_alloc|apply pw_below_drewN|apply below_drew1|refine below_set ?_ GE107.out)|exact HB.out)) hb); clear BK107; clear HB; have BK107:=n0_; have HB:=n1_; clear n0_ n1_; (try clear hb); (try clear hb2); (try clear hk); (try clear hi))|((with_reducible refine gate_callee (f:=73) rfl ?_); refine goesL_ (some 19) rfl rfl Try.func73 (by kernel_rfl) rfl #[.int .i64 x3_1,.int .i64 t109] rfl (by (try simp only [List.map_toArray,List.map_cons,List.map_nil]); first|done|rfl|(simp only [List.length_drop,List.length_take]; rfl)) ?_; (with_reducible refine (spec_l1Max.calls x3_1 t109 t110 _ A6.out).mono ?_); rintro e w' ⟨rfl,⟨nd,rfl⟩⟩; refine ⟨_,rfl,?_⟩))
     go_roundg k1
     case measure=>have:=HK1.out; omega
     case rel=>exact ⟨(t110),(wrap64 (x4_1+1)),(by first|rfl|(simp; done)|(simp [*]; done)),(by first|rfl|(simp; done)|(simp [*]; done)),H',⟨by have:=HK1.out; omega⟩,⟨by (with_reducible repeat (first|refine blk_drewN ?_ _|refine blk_drew ?_|refine blk_alloc ?_ _)); exact BK107.out⟩,⟨by repeat (first|(with_reducible first|exact HB.out|apply below_alloc|apply pw_below_drewN|apply below_drew1|refine below_set ?_ GE107.out)|exact HB.out)⟩⟩
    ·rw [if_neg c4] at H
     exact absurd H (by simp)
   ·rw [if_neg c3] at H
    have c3b0:decide (x4_1<(l0_4.length:Int))=false:=decide_eq_false c3
    clear c3
    obtain rfl:=Option.some.inj H
    have hcz9_0:wr.cell? ⟨gb107,0,none⟩=some (.int .i64 a0_0):=(blk_cell BK107.out 0).trans rfl
    have hcz9_1:wr.cell? ⟨gb107,1,none⟩=some (.int .i64 a0_1):=(blk_cell BK107.out 1).trans rfl
    have hcz9_2:wr.cell? ⟨gb107,2,none⟩=some (.string a0_2):=(blk_cell BK107.out 2).trans rfl
    have hcz9_3:wr.cell? ⟨gb107,3,none⟩=some (.slice A0_3 l0_3.length c0_3):=(blk_cell BK107.out 3).trans rfl
    have hcz9_4:wr.cell? ⟨gb107,4,none⟩=some (.slice A0_4 l0_4.length c0_4):=(blk_cell BK107.out 4).trans rfl
    have hfz9_0:=blk_frozen BK107.out 0
    have hfz9_1:=blk_frozen BK107.out 1
    have hfz9_2:=blk_frozen BK107.out 2
    have hfz9_3:=blk_frozen BK107.out 3
    have hfz9_4:=blk_frozen BK107.out 4
    go_wp2
    go_ret
    exact ⟨by first|rfl|(simp [errW_none,errW_some]<;>rfl)|(simp [*,errW_none,errW_some]<;>rfl),by repeat (first|(with_reducible first|exact HB.out|apply below_alloc|apply pw_below_drewN|apply below_drew1|refine below_set ?_ GE107.out)|exact HB.out)⟩
mutual
def spec_l3Size.l0:Nat→Int→Int→Int→Int→ByteArray→List ByteArray→List (S33)→Option (Int)
 |0,_,_,_,_,_,_,_=>none
 |k+1,x3,x4,x112000,x112001,x112002,x112003,x112004=>if x4<(x112004.length:Int) then (if 0≤x4 then ((spec_l3Size.f k ((rd_T33 x112004 x4).f0) ((rd_T33 x112004 x4).f1) ((rd_T33 x112004 x4).f2) ((rd_T33 x112004 x4).f3) ((rd_T33 x112004 x4).f4)).bind fun t113=>(spec_l3Size.l0 k (wrap64 (x3+t113)) (wrap64 (x4+1)) x112000 x112001 x112002 x112003 x112004)) else (none)) else (some x3)
def spec_l3Size.f:Nat→Int→Int→ByteArray→List ByteArray→List (S33)→Option (Int)
 |0,_,_,_,_,_=>none
 |k+1,a0_0,a0_1,a0_2,l0_3,l0_4=>spec_l3Size.l0 k 1 0 a0_0 a0_1 a0_2 l0_3 l0_4
end
theorem spec_l3Size.mono_l:∀ k,(∀ y0 y1 y2 y3 y4,LeO (spec_l3Size.f k y0 y1 y2 y3 y4) (spec_l3Size.f (k+1) y0 y1 y2 y3 y4))∧(∀ y0 y1 y2 y3 y4 y5 y6,LeO (spec_l3Size.l0 k y0 y1 y2 y3 y4 y5 y6) (spec_l3Size.l0 (k+1) y0 y1 y2 y3 y4 y5 y6))
 |0=>⟨fun _ _ _ _ _ r h=>by simp [spec_l3Size.f] at h,fun _ _ _ _ _ _ _ r h=>by simp [spec_l3Size.l0] at h⟩
 |k+1=>by
  obtain ⟨ih0,ih1⟩:=spec_l3Size.mono_l k
  refine ⟨?_,?_⟩
  ·intro y0 y1 y2 y3 y4
   unfold spec_l3Size.f
   repeat' first
   |(with_reducible exact ih0 _ _ _ _ _)
   |(with_reducible exact ih1 _ _ _ _ _ _ _)
   |(with_reducible exact LeO.refl _)
   |(with_reducible exact LeO.none _)
   |(with_reducible refine LeO.ite ?_ ?_)
   |(with_reducible refine LeO.bind ?_ (fun _=>?_))
   |exact ih0 _ _ _ _ _
   |exact ih1 _ _ _ _ _ _ _
   |exact LeO.none _
   |refine LeO.ite ?_ ?_
   |refine LeO.bind ?_ (fun _=>?_)
  ·intro y0 y1 y2 y3 y4 y5 y6
   unfold spec_l3Size.l0
   repeat' first
   |(with_reducible exact ih0 _ _ _ _ _)
   |(with_reducible exact ih1 _ _ _ _ _ _ _)
   |(with_reducible exact LeO.refl _)
   |(with_reducible exact LeO.none _)
   |(with_reducible refine LeO.ite ?_ ?_)
   |(with_reducible refine LeO.bind ?_ (fun _=>?_))
   |exact ih0 _ _ _ _ _
   |exact ih1 _ _ _ _ _ _ _
   |exact LeO.none _
   |refine LeO.ite ?_ ?_
   |refine LeO.bind ?_ (fun _=>?_)
theorem spec_l3Size.mono:∀ a0 a1 a2 a3 a4 k,LeO (spec_l3Size.f k a0 a1 a2 a3 a4) (spec_l3Size.f (k+1) a0 a1 a2 a3 a4):=by
 intro a0 a1 a2 a3 a4 k
 obtain ⟨ih0,ih1⟩:=spec_l3Size.mono_l k
 exact ih0 a0 a1 a2 a3 a4
set_option maxHeartbeats 8000000 in
set_option maxRecDepth 100000 in
theorem spec_l3Size.calls (k:Nat):∀ (a0_0:Int) (a0_1:Int) (a0_2:ByteArray) (A0_3:Option Addr) (c0_3:Nat) (l0_3:List ByteArray) (A0_4:Option Addr) (c0_4:Nat) (l0_4:List (S33)) (r:Int) (w:World) (hr0_3:Kd.C Kd.string w A0_3 l0_3.length l0_3) (hc0_3:l0_3.length≤c0_3) (hr0_4:Kd.C k33 w A0_4 l0_4.length l0_4) (hc0_4:l0_4.length≤c0_4) (h:spec_l3Size.f k a0_0 a0_1 a0_2 l0_3 l0_4=some r),
  Calls Try.prog 58 #[.agg #[.int .i64 a0_0,.int .i64 a0_1,.string a0_2,.slice A0_3 l0_3.length c0_3,.slice A0_4 l0_4.length c0_4]] w fun e w'=>e=.returned (.int .i64 r)∧Below w.heap.size w w':=by
 induction k using Nat.strongRecOn with
 |_ k ih =>
 intro a0_0 a0_1 a0_2 A0_3 c0_3 l0_3 A0_4 c0_4 l0_4 r w hr0_3 hc0_3 hr0_4 hc0_4 h
 cases k with
 |zero=>exact absurd h (by simp [spec_l3Size.f])
 |succ k =>
 simp only [spec_l3Size.f] at h
 have hu33:=Try.underlying33
 have HR0_3:=Aside0.mk hr0_3
 have HC0_3:=Aside0.mk hc0_3
 clear hr0_3 hc0_3
 have HR0_4:=Aside0.mk hr0_4
 have HC0_4:=Aside0.mk hc0_4
 clear hr0_4 hc0_4
 have HB:=Aside0.mk (Below.refl w.heap.size w)
 have H:(spec_l3Size.l0 k 1 0 a0_0 a0_1 a0_2 l0_3 l0_4)=some r:=h
 clear h
 have H':=Aside0.mk H
 clear H
 go_enter Try.func58,Try.ntmps58
 go_wp2_with (first|((with_reducible refine gate_dst (N:=1) rfl ?_); refine box_event ?hg (N:=1) ?hd (cs:=#[.int .i64 a0_0,.int .i64 a0_1,.string a0_2,.slice A0_3 l0_3.length c0_3,.slice A0_4 l0_4.length c0_4]) (t:=33) ?hr ?_; (case hd=>rfl); (case hg=>rfl); (case hr=>first|(go_simp; done)|(go_simp; rfl)); intro gb111 hg w2 hbox hb; have n0_:=Aside0.mk (below_step (by repeat (first|(with_reducible first|exact HB.out|apply below_alloc|apply pw_below_drewN|apply below_drew1)|exact HB.out)) hb); have n1_:=Aside0.mk (hbox); have n2_:=Aside0.mk ((by rw [hg]; exact (below_size (by repeat (first|(with_reducible first|exact HB.out|apply below_alloc|apply pw_below_drewN|apply below_drew1)|exact HB.out))):w.heap.size≤gb111)); have n3_:=Aside0.mk ((by rw [hg]; exact (below_size (by repeat (first|(with_reducible first|exact HB.out|apply below_alloc|apply pw_below_drewN|apply below_drew1)|exact HB.out))):w.heap.size≤gb111)); clear HB; have HB:=n0_; have BK111:=n1_; have GW111:=n2_; have GE111:=n3_; clear n0_ n1_ n2_ n3_; clear hb hbox hg))
 go_loopg [3,4] k (fun kq v3 v4 w'=>∃ (x3_1:Int) (x4_1:Int),v3=.int .i64 x3_1∧v4=.int .i64 x4_1∧Aside0 (spec_l3Size.l0 kq x3_1 x4_1 a0_0 a0_1 a0_2 l0_3 l0_4=some r)∧Aside0 (kq≤k)∧Aside0 (w'.heap[gb111]?=some (.cells #[.int .i64 a0_0,.int .i64 a0_1,.string a0_2,(.slice A0_3 l0_3.length c0_3),(.slice A0_4 l0_4.length c0_4)] 33 (0,0)))∧Aside0 (Below w.heap.size w w'))
 case atStart=>exact ⟨(1),(0),(by first|rfl|(simp; done)|(simp [*]; done)),(by first|rfl|(simp; done)|(simp [*]; done)),H',⟨Nat.le_refl _⟩,⟨by (with_reducible repeat (first|refine blk_drewN ?_ _|refine blk_drew ?_|refine blk_alloc ?_ _)); exact BK111.out⟩,⟨by repeat (first|(with_reducible first|exact HB.out|apply below_alloc|apply pw_below_drewN|apply below_drew1|refine below_set ?_ GE111.out)|exact HB.out)⟩⟩
 case round =>
  clear H'
  try clear p2
  obtain ⟨x3_1,x4_1,rfl,rfl,HA,HK1,BK111,HB⟩:=hrel
  cases gk with
  |zero=>exact absurd HA.out (by simp [spec_l3Size.l0])
  |succ k1 =>
   have H:=HA.out
   clear HA
   simp only [spec_l3Size.l0] at H
   by_cases c3:x4_1<(l0_4.length:Int)
   ·rw [if_pos c3] at H
    have c3b0:decide (x4_1<(l0_4.length:Int))=true:=decide_eq_true c3
    clear c3
    by_cases c4:0≤x4_1
    ·rw [if_pos c4] at H
     have c4b0:decide (0≤x4_1)=true:=decide_eq_true c4
     clear c4
     replace H:=Option.bind_eq_some_iff.mp H
     obtain ⟨t113,A50,H⟩:=H
     replace H:(spec_l3Size.l0 k1 (wrap64 (x3_1+t113)) (wrap64 (x4_1+1)) a0_0 a0_1 a0_2 l0_3 l0_4)=some r:=H
     have A5:=Aside0.mk A50
     clear A50
     have H':=Aside0.mk H
     clear H
     have hcz6_0:wr.cell? ⟨gb111,0,none⟩=some (.int .i64 a0_0):=(blk_cell BK111.out 0).trans rfl
     have hcz6_1:wr.cell? ⟨gb111,1,none⟩=some (.int .i64 a0_1):=(blk_cell BK111.out 1).trans rfl
     have hcz6_2:wr.cell? ⟨gb111,2,none⟩=some (.string a0_2):=(blk_cell BK111.out 2).trans rfl
     have hcz6_3:wr.cell? ⟨gb111,3,none⟩=some (.slice A0_3 l0_3.length c0_3):=(blk_cell BK111.out 3).trans rfl
     have hcz6_4:wr.cell? ⟨gb111,4,none⟩=some (.slice A0_4 l0_4.length c0_4):=(blk_cell BK111.out 4).trans rfl
     have hfz6_0:=blk_frozen BK111.out 0
     have hfz6_1:=blk_frozen BK111.out 1
     have hfz6_2:=blk_frozen BK111.out 2
     have hfz6_3:=blk_frozen BK111.out 3
     have hfz6_4:=blk_frozen BK111.out 4
     have p112:0≤(x4_1:Int):=of_decide_eq_true (by first|(with_reducible assumption)|assumption)
     have q112:x4_1<(l0_4.length:Int):=of_decide_eq_true (by first|(with_reducible assumption)|assumption)
     obtain ⟨ad112,A112_3,c112_3,A112_4,c112_4,e112,hx112_0,hx112_1,hx112_2,hx112_3,hx112_4,hl112_3,hi112_3,hl112_4,hi112_4⟩:=at_T33 HR0_4.out x4_1 p112 q112
     cases e112
     replace hx112_0:=(HB.out.cell (World.block_lt_of_cell? w _ hx112_0)).trans hx112_0
     replace hx112_1:=(HB.out.cell (World.block_lt_of_cell? w _ hx112_1)).trans hx112_1
     replace hx112_2:=(HB.out.cell (World.block_lt_of_cell? w _ hx112_2)).trans hx112_2
     replace hx112_3:=(HB.out.cell (World.block_lt_of_cell? w _ hx112_3)).trans hx112_3
     replace hx112_4:=(HB.out.cell (World.block_lt_of_cell? w _ hx112_4)).trans hx112_4
     have HR112_3:=Aside0.mk hi112_3
     have HC112_3:=Aside0.mk hl112_3
     clear hi112_3 hl112_3
     have HR112_4:=Aside0.mk hi112_4
     have HC112_4:=Aside0.mk hl112_4
     clear hi112_4 hl112_4
     replace p112:=eq_true p112
     replace q112:=eq_true q112
     go_wp2_with (first|((with_reducible refine gate_callee (f:=58) rfl ?_); refine goesL_ (some 18) rfl rfl Try.func58 (by kernel_rfl) rfl #[.agg #[.int .i64 ((rd_T33 l0_4 x4_1).f0),.int .i64 ((rd_T33 l0_4 x4_1).f1),.string ((rd_T33 l0_4 x4_1).f2),.slice A112_3 ((rd_T33 l0_4 x4_1).f3).length c112_3,.slice A112_4 ((rd_T33 l0_4 x4_1).f4).length c112_4]] rfl (by (try simp only [List.map_toArray,List.map_cons,List.map_nil]); first|done|rfl|(simp only [List.length_drop,List.length_take]; rfl)) ?_; (with_reducible refine (ih k1 (by have:=HK1.out; omega) ((rd_T33 l0_4 x4_1).f0) ((rd_T33 l0_4 x4_1).f1) ((rd_T33 l0_4 x4_1).f2) _ _ ((rd_T33 l0_4 x4_1).f3) _ _ ((rd_T33 l0_4 x4_1).f4) t113 _ ?side1 ?side2 ?side3 ?side4 A5.out).mono ?_); (case side1=>repeat (first|exact (Kd.C_below HR112_3.out HB.out)|(with_reducible refine Kd.C_alloc ?_ _)|(with_reducible refine Kd.C_drewN ?_ _)|(with_reducible refine Kd.C_drew ?_))); (case side2=>exact HC112_3.out); (case side3=>repeat (first|exact (Kd.C_below HR112_4.out HB.out)|(with_reducible refine Kd.C_alloc ?_ _)|(with_reducible refine Kd.C_drewN ?_ _)|(with_reducible refine Kd.C_drew ?_))); (case side4=>exact HC112_4.out); rintro e w7 ⟨rfl,hb⟩; refine ⟨_,rfl,?_⟩; have n0_:=Aside0.mk (blk_below (g:=gb111) (o:=.cells #[.int .i64 a0_0,.int .i64 a0_1,.string a0_2,.slice A0_3 l0_3.length c0_3,.slice (some ad112) l0_4.length c0_4] 33 (0,0)) (by (with_reducible repeat (first|refine blk_drewN ?_ _|refine blk_drew ?_|refine blk_alloc ?_ _)); exact BK111.out) hb); have n1_:=Aside0.mk (below_step (by repeat (first|(with_reducible first|exact HB.out|apply below_alloc|apply pw_below_drewN|apply below_drew1|refine below_set ?_ GE111.out)|exact HB.out)) hb); clear BK111; clear HB; have BK111:=n0_; have HB:=n1_; clear n0_ n1_; (try clear hb); (try clear hb2); (try clear hk); (try clear hi)))
     go_roundg k1
     case measure=>have:=HK1.out; omega
     case rel=>exact ⟨(wrap64 (x3_1+t113)),(wrap64 (x4_1+1)),(by first|rfl|(simp; done)|(simp [*]; done)),(by first|rfl|(simp; done)|(simp [*]; done)),H',⟨by have:=HK1.out; omega⟩,⟨by (with_reducible repeat (first|refine blk_drewN ?_ _|refine blk_drew ?_|refine blk_alloc ?_ _)); exact BK111.out⟩,⟨by repeat (first|(with_reducible first|exact HB.out|apply below_alloc|apply pw_below_drewN|apply below_drew1|refine below_set ?_ GE111.out)|exact HB.out)⟩⟩
    ·rw [if_neg c4] at H
     exact absurd H (by simp)
   ·rw [if_neg c3] at H
    have c3b0:decide (x4_1<(l0_4.length:Int))=false:=decide_eq_false c3
    clear c3
    obtain rfl:=Option.some.inj H
    have hcz8_0:wr.cell? ⟨gb111,0,none⟩=some (.int .i64 a0_0):=(blk_cell BK111.out 0).trans rfl
    have hcz8_1:wr.cell? ⟨gb111,1,none⟩=some (.int .i64 a0_1):=(blk_cell BK111.out 1).trans rfl
    have hcz8_2:wr.cell? ⟨gb111,2,none⟩=some (.string a0_2):=(blk_cell BK111.out 2).trans rfl
    have hcz8_3:wr.cell? ⟨gb111,3,none⟩=some (.slice A0_3 l0_3.length c0_3):=(blk_cell BK111.out 3).trans rfl
    have hcz8_4:wr.cell? ⟨gb111,4,none⟩=some (.slice A0_4 l0_4.length c0_4):=(blk_cell BK111.out 4).trans rfl
    have hfz8_0:=blk_frozen BK111.out 0
    have hfz8_1:=blk_frozen BK111.out 1
    have hfz8_2:=blk_frozen BK111.out 2
    have hfz8_3:=blk_frozen BK111.out 3
    have hfz8_4:=blk_frozen BK111.out 4
    go_wp2
    go_ret
    exact ⟨by first|rfl|(simp [errW_none,errW_some]<;>rfl)|(simp [*,errW_none,errW_some]<;>rfl),by repeat (first|(with_reducible first|exact HB.out|apply below_alloc|apply pw_below_drewN|apply below_drew1|refine below_set ?_ GE111.out)|exact HB.out)⟩
def spec_l1In.f (a0:Int) (a1:Int) (a2:Int):Option (Bool):=if a0 ≥ a1 then (some (decide (a0≤a2))) else (some false)
set_option maxHeartbeats 8000000 in
set_option maxRecDepth 100000 in
theorem spec_l1In.calls (a0:Int) (a1:Int) (a2:Int) (r:Bool) (w:World) (h:spec_l1In.f a0 a1 a2=some r) :
  Calls Try.prog 47 #[.int .i64 a0,.int .i64 a1,.int .i64 a2] w fun e w'=>e=.returned (.bool r)∧Drawn0 w w':=by
 have H:(if a0 ≥ a1 then (some (decide (a0≤a2))) else (some false))=some r:=h
 clear h
 by_cases c4:a0 ≥ a1
 ·rw [if_pos c4] at H
  have c4b0:decide (a1≤a0)=true:=decide_eq_true c4
  clear c4
  obtain rfl:=Option.some.inj H
  go_enter Try.func47,Try.ntmps47
  go_wp2
  go_ret
  exact ⟨by first|rfl|(simp; done)|(simp [*]; done),by repeat (first|exact Drawn0.refl _|apply Drawn0.step)⟩
 ·rw [if_neg c4] at H
  have c4b0:decide (a1≤a0)=false:=decide_eq_false c4
  clear c4
  obtain rfl:=Option.some.inj H
  go_enter Try.func47,Try.ntmps47
  go_wp2
  go_ret
  exact ⟨by first|rfl|(simp; done)|(simp [*]; done),by repeat (first|exact Drawn0.refl _|apply Drawn0.step)⟩
def spec_TextOk.l0:Nat→ByteArray→Int→Option (Bool)
 |0,_,_=>none
 |k+1,x0,x3=>if x3<(x0.size:Int) then (if 0≤x3 then (if (bt x0 x3)<32 then (some false) else (if (bt x0 x3) > 126 then (some false) else (spec_TextOk.l0 k x0 (wrap64 (x3+1))))) else (none)) else (some (decide ((x0.size:Int)≤400)))
def spec_TextOk.f (k:Nat) (a0:ByteArray):Option (Bool):=spec_TextOk.l0 k a0 0
theorem spec_TextOk.mono_l:∀ k,(∀ y0 y1,LeO (spec_TextOk.l0 k y0 y1) (spec_TextOk.l0 (k+1) y0 y1))
 |0=>fun _ _ r h=>by simp [spec_TextOk.l0] at h
 |k+1=>by
  have ih0:=spec_TextOk.mono_l k
  ·intro y0 y1
   unfold spec_TextOk.l0
   repeat' first
   |(with_reducible exact ih0 _ _)
   |(with_reducible exact LeO.refl _)
   |(with_reducible exact LeO.none _)
   |(with_reducible refine LeO.ite ?_ ?_)
   |(with_reducible refine LeO.bind ?_ (fun _=>?_))
   |exact ih0 _ _
   |exact LeO.none _
   |refine LeO.ite ?_ ?_
   |refine LeO.bind ?_ (fun _=>?_)
theorem spec_TextOk.mono:∀ a0 k,LeO (spec_TextOk.f k a0) (spec_TextOk.f (k+1) a0):=by
 intro a0 k
 have ih0:=spec_TextOk.mono_l k
 unfold spec_TextOk.f
 repeat' first
   |(with_reducible exact ih0 _ _)
   |(with_reducible exact LeO.refl _)
   |(with_reducible exact LeO.none _)
   |(with_reducible refine LeO.ite ?_ ?_)
   |(with_reducible refine LeO.bind ?_ (fun _=>?_))
   |exact ih0 _ _
   |exact LeO.none _
   |refine LeO.ite ?_ ?_
   |refine LeO.bind ?_ (fun _=>?_)
set_option maxHeartbeats 8000000 in
set_option maxRecDepth 100000 in
theorem spec_TextOk.calls (k:Nat) (a0:ByteArray) (r:Bool) (w:World) (h:spec_TextOk.f k a0=some r) :
  Calls Try.prog 93 #[.string a0] w fun e w'=>e=.returned (.bool r)∧Drawn0 w w':=by
 have H:(spec_TextOk.l0 k a0 0)=some r:=h
 clear h
 have H':=Aside0.mk H
 clear H
 go_enter Try.func93,Try.ntmps93
 go_wp2
 go_loopg [3] k (fun kq v3 w'=>∃ (x3_1:Int),v3=.int .i64 x3_1∧Aside0 (spec_TextOk.l0 kq a0 x3_1=some r)∧Aside0 (kq≤k)∧Drawn0 w w')
 case atStart=>exact ⟨(0),(by first|rfl|(simp; done)|(simp [*]; done)),H',⟨Nat.le_refl _⟩,by repeat (first|exact Drawn0.refl _|apply Drawn0.step)⟩
 case round =>
  clear H'
  obtain ⟨x3_1,rfl,HA,HK1,⟨m1,rfl⟩⟩:=hrel
  cases gk with
  |zero=>exact absurd HA.out (by simp [spec_TextOk.l0])
  |succ k1 =>
   have H:=HA.out
   clear HA
   simp only [spec_TextOk.l0] at H
   by_cases c2:x3_1<(a0.size:Int)
   ·rw [if_pos c2] at H
    have c2b0:decide (x3_1<(a0.size:Int))=true:=decide_eq_true c2
    clear c2
    by_cases c3:0≤x3_1
    ·rw [if_pos c3] at H
     have c3b0:decide (0≤x3_1)=true:=decide_eq_true c3
     clear c3
     by_cases c5:(bt a0 x3_1)<32
     ·rw [if_pos c5] at H
      have c5b0:decide ((bt a0 x3_1)<32)=true:=decide_eq_true c5
      clear c5
      obtain rfl:=Option.some.inj H
      have p4:0≤(x3_1:Int):=of_decide_eq_true (by first|(with_reducible assumption)|assumption)
      have q4:x3_1<(a0.size:Int):=of_decide_eq_true (by first|(with_reducible assumption)|assumption)
      have hx4:=bt_at a0 x3_1
      replace p4:=eq_true p4
      replace q4:=eq_true q4
      go_wp2
      go_ret
      exact ⟨by first|rfl|(simp; done)|(simp [*]; done),by repeat (first|exact Drawn0.refl _|apply Drawn0.step)⟩
     ·rw [if_neg c5] at H
      have c5b0:decide ((bt a0 x3_1)<32)=false:=decide_eq_false c5
      clear c5
      by_cases c7:(bt a0 x3_1) > 126
      ·rw [if_pos c7] at H
       have c7b0:decide (126<(bt a0 x3_1))=true:=decide_eq_true c7
       clear c7
       obtain rfl:=Option.some.inj H
       have p4:0≤(x3_1:Int):=of_decide_eq_true (by first|(with_reducible assumption)|assumption)
       have q4:x3_1<(a0.size:Int):=of_decide_eq_true (by first|(with_reducible assumption)|assumption)
       have hx4:=bt_at a0 x3_1
       replace p4:=eq_true p4
       replace q4:=eq_true q4
       have p6:0≤(x3_1:Int):=of_decide_eq_true (by first|(with_reducible assumption)|assumption)
       have q6:x3_1<(a0.size:Int):=of_decide_eq_true (by first|(with_reducible assumption)|assumption)
       have hx6:=bt_at a0 x3_1
       replace p6:=eq_true p6
       replace q6:=eq_true q6
       go_wp2
       go_ret
       exact ⟨by first|rfl|(simp; done)|(simp [*]; done),by repeat (first|exact Drawn0.refl _|apply Drawn0.step)⟩
      ·rw [if_neg c7] at H
       have c7b0:decide (126<(bt a0 x3_1))=false:=decide_eq_false c7
       clear c7
       have H':=Aside0.mk H
       clear H
       have p4:0≤(x3_1:Int):=of_decide_eq_true (by first|(with_reducible assumption)|assumption)
       have q4:x3_1<(a0.size:Int):=of_decide_eq_true (by first|(with_reducible assumption)|assumption)
       have hx4:=bt_at a0 x3_1
       replace p4:=eq_true p4
       replace q4:=eq_true q4
       have p6:0≤(x3_1:Int):=of_decide_eq_true (by first|(with_reducible assumption)|assumption)
       have q6:x3_1<(a0.size:Int):=of_decide_eq_true (by first|(with_reducible assumption)|assumption)
       have hx6:=bt_at a0 x3_1
       replace p6:=eq_true p6
       replace q6:=eq_true q6
       go_wp2
       go_roundg k1
       case measure=>have:=HK1.out; omega
       case rel=>exact ⟨(wrap64 (x3_1+1)),(by first|rfl|(simp; done)|(simp [*]; done)),H',⟨by have:=HK1.out; omega⟩,by repeat (first|exact Drawn0.refl _|apply Drawn0.step)⟩
    ·rw [if_neg c3] at H
     exact absurd H (by simp)
   ·rw [if_neg c2] at H
    have c2b0:decide (x3_1<(a0.size:Int))=false:=decide_eq_false c2
    clear c2
    obtain rfl:=Option.some.inj H
    go_wp2
    go_ret
    exact ⟨by first|rfl|(simp; done)|(simp [*]; done),by repeat (first|exact Drawn0.refl _|apply Drawn0.step)⟩
def spec_l3Leaf.j0:Nat→Bool→Int→Int→ByteArray→List ByteArray→List (S33)→Option (Bool)
 |0,_,_,_,_,_,_=>none
 |k+1,x12,x115000,x115001,x115002,x115003,x115004=>if x12=true then (some false) else (if x115000=0 then (if x115001=0 then (some (x115002.toList == ([]:List UInt8))) else (some false)) else (if x115000=1 then ((spec_l1In.f x115001 0 1).bind fun t115=>(if t115=true then (some (x115002.toList == ([]:List UInt8))) else (some false))) else (if x115000=2 then ((spec_l1In.f x115001 (-1000000000000) 1000000000000).bind fun t116=>(if t116=true then (some (x115002.toList == ([]:List UInt8))) else (some false))) else (if x115000=3 then (if x115001=0 then ((spec_TextOk.f k x115002).bind fun t117=>(some t117)) else (some false)) else (some false)))))
def spec_l3Leaf.f (k:Nat) (a0_0:Int) (a0_1:Int) (a0_2:ByteArray) (l0_3:List ByteArray) (l0_4:List (S33)):Option (Bool):=if (l0_4.length:Int) > 0 then (spec_l3Leaf.j0 k true a0_0 a0_1 a0_2 l0_3 l0_4) else (spec_l3Leaf.j0 k (decide ((l0_3.length:Int) > 0)) a0_0 a0_1 a0_2 l0_3 l0_4)
theorem spec_l3Leaf.mono_l:∀ k,(∀ y0 y1 y2 y3 y4 y5,LeO (spec_l3Leaf.j0 k y0 y1 y2 y3 y4 y5) (spec_l3Leaf.j0 (k+1) y0 y1 y2 y3 y4 y5))
 |0=>fun _ _ _ _ _ _ r h=>by simp [spec_l3Leaf.j0] at h
 |k+1=>by
  have ih0:=spec_l3Leaf.mono_l k
  ·intro y0 y1 y2 y3 y4 y5
   unfold spec_l3Leaf.j0
   repeat' first
   |(with_reducible exact ih0 _ _ _ _ _ _)
   |(with_reducible exact spec_TextOk.mono _ _)
   |(with_reducible exact LeO.refl _)
   |(with_reducible exact LeO.none _)
   |(with_reducible refine LeO.ite ?_ ?_)
   |(with_reducible refine LeO.bind ?_ (fun _=>?_))
   |exact ih0 _ _ _ _ _ _
   |exact spec_TextOk.mono _ _
   |exact LeO.none _
   |refine LeO.ite ?_ ?_
   |refine LeO.bind ?_ (fun _=>?_)
theorem spec_l3Leaf.mono:∀ a0 a1 a2 a3 a4 k,LeO (spec_l3Leaf.f k a0 a1 a2 a3 a4) (spec_l3Leaf.f (k+1) a0 a1 a2 a3 a4):=by
 intro a0 a1 a2 a3 a4 k
 have ih0:=spec_l3Leaf.mono_l k
 unfold spec_l3Leaf.f
 repeat' first
   |(with_reducible exact ih0 _ _ _ _ _ _)
   |(with_reducible exact spec_TextOk.mono _ _)
   |(with_reducible exact LeO.refl _)
   |(with_reducible exact LeO.none _)
   |(with_reducible refine LeO.ite ?_ ?_)
   |(with_reducible refine LeO.bind ?_ (fun _=>?_))
   |exact ih0 _ _ _ _ _ _
   |exact spec_TextOk.mono _ _
   |exact LeO.none _
   |refine LeO.ite ?_ ?_
   |refine LeO.bind ?_ (fun _=>?_)
set_option maxHeartbeats 8000000 in
set_option maxRecDepth 100000 in
theorem spec_l3Leaf.calls (k:Nat) (a0_0:Int) (a0_1:Int) (a0_2:ByteArray) (A0_3:Option Addr) (c0_3:Nat) (l0_3:List ByteArray) (A0_4:Option Addr) (c0_4:Nat) (l0_4:List (S33)) (r:Bool) (w:World) (hr0_3:Kd.C Kd.string w A0_3 l0_3.length l0_3) (hc0_3:l0_3.length≤c0_3) (hr0_4:Kd.C k33 w A0_4 l0_4.length l0_4) (hc0_4:l0_4.length≤c0_4) (h:spec_l3Leaf.f k a0_0 a0_1 a0_2 l0_3 l0_4=some r) :
  Calls Try.prog 74 #[.agg #[.int .i64 a0_0,.int .i64 a0_1,.string a0_2,.slice A0_3 l0_3.length c0_3,.slice A0_4 l0_4.length c0_4]] w fun e w'=>e=.returned (.bool r)∧Below w.heap.size w w':=by
 have hu33:=Try.underlying33
 have HR0_3:=Aside0.mk hr0_3
 have HC0_3:=Aside0.mk hc0_3
 clear hr0_3 hc0_3
 have HR0_4:=Aside0.mk hr0_4
 have HC0_4:=Aside0.mk hc0_4
 clear hr0_4 hc0_4
 have HB:=Aside0.mk (Below.refl w.heap.size w)
 have H:(if (l0_4.length:Int) > 0 then (spec_l3Leaf.j0 k true a0_0 a0_1 a0_2 l0_3 l0_4) else (spec_l3Leaf.j0 k (decide ((l0_3.length:Int) > 0)) a0_0 a0_1 a0_2 l0_3 l0_4))=some r:=h
 clear h
 have HC2:=Aside0.mk H
 clear H
 go_enter Try.func74,Try.ntmps74
 go_upto_region 1 with (first|((with_reducible refine gate_dst (N:=1) rfl ?_); (try (refine gate_guard (by rfl) ?_; dsimp only)); refine box_event ?hg (N:=1) ?hd (cs:=#[.int .i64 a0_0,.int .i64 a0_1,.string a0_2,.slice A0_3 l0_3.length c0_3,.slice A0_4 l0_4.length c0_4]) (t:=33) ?hr ?_; (case hd=>rfl); (case hg=>rfl); (case hr=>first|(go_simp; done)|(go_simp; rfl)); intro gb114 hg w3 hbox hb; have n0_:=Aside0.mk (below_step (by repeat (first|(with_reducible first|exact HB.out|apply below_alloc|apply pw_below_drewN|apply below_drew1)|exact HB.out)) hb); have n1_:=Aside0.mk (hbox); have n2_:=Aside0.mk ((by rw [hg]; exact (below_size (by repeat (first|(with_reducible first|exact HB.out|apply below_alloc|apply pw_below_drewN|apply below_drew1)|exact HB.out))):w.heap.size≤gb114)); have n3_:=Aside0.mk ((by rw [hg]; exact (below_size (by repeat (first|(with_reducible first|exact HB.out|apply below_alloc|apply pw_below_drewN|apply below_drew1)|exact HB.out))):w.heap.size≤gb114)); clear HB; have HB:=n0_; have BK114:=n1_; have GW114:=n2_; have GE114:=n3_; clear n0_ n1_ n2_ n3_; clear hb hbox hg))
 (try simp only [Act.put,List.setIfInBounds_toArray,List.set_cons_zero,List.set_cons_succ])
 go_cut [12] (fun v12 wc=>∃ (kq:Nat) (x12_1:Bool),v12=.bool x12_1∧Aside0 (spec_l3Leaf.j0 kq x12_1 a0_0 a0_1 a0_2 l0_3 l0_4=some r)∧Aside0 (kq≤k)∧Aside0 (wc.heap[gb114]?=some (.cells #[.int .i64 a0_0,.int .i64 a0_1,.string a0_2,(.slice A0_3 l0_3.length c0_3),(.slice A0_4 l0_4.length c0_4)] 33 (0,0)))∧Aside0 (Below w.heap.size w wc))
 case first =>
  have H:=HC2.out
  clear HC2
  by_cases c4:(l0_4.length:Int) > 0
  ·rw [if_pos c4] at H
   have c4b0:decide (0<(l0_4.length:Int))=true:=decide_eq_true c4
   have c4b1:decide (0<l0_4.length)=true:=decide_eq_true (by omega)
   clear c4
   (first|rw [c4b0]|rw [c4b1]|(simp only [i64_w,i32_w]; rw [c4b0])|skip)
   have H':=Aside0.mk H
   clear H
   have hcz5_0:w3.cell? ⟨gb114,0,none⟩=some (.int .i64 a0_0):=(blk_cell BK114.out 0).trans rfl
   have hcz5_1:w3.cell? ⟨gb114,1,none⟩=some (.int .i64 a0_1):=(blk_cell BK114.out 1).trans rfl
   have hcz5_2:w3.cell? ⟨gb114,2,none⟩=some (.string a0_2):=(blk_cell BK114.out 2).trans rfl
   have hcz5_3:w3.cell? ⟨gb114,3,none⟩=some (.slice A0_3 l0_3.length c0_3):=(blk_cell BK114.out 3).trans rfl
   have hcz5_4:w3.cell? ⟨gb114,4,none⟩=some (.slice A0_4 l0_4.length c0_4):=(blk_cell BK114.out 4).trans rfl
   have hfz5_0:=blk_frozen BK114.out 0
   have hfz5_1:=blk_frozen BK114.out 1
   have hfz5_2:=blk_frozen BK114.out 2
   have hfz5_3:=blk_frozen BK114.out 3
   have hfz5_4:=blk_frozen BK114.out 4
   go_wp2
   go_meet
   case rel=>exact ⟨_,(true),(by first|rfl|(simp; done)|(simp [*]; done)),H',⟨by first|omega|exact Nat.le_refl _⟩,⟨by (with_reducible repeat (first|refine blk_drewN ?_ _|refine blk_drew ?_|refine blk_alloc ?_ _)); exact BK114.out⟩,⟨by repeat (first|(with_reducible first|exact HB.out|apply below_alloc|apply pw_below_drewN|apply below_drew1|refine below_set ?_ GE114.out)|exact HB.out)⟩⟩
  ·rw [if_neg c4] at H
   have c4b0:decide (0<(l0_4.length:Int))=false:=decide_eq_false c4
   have c4b1:decide (0<l0_4.length)=false:=decide_eq_false (by omega)
   clear c4
   (first|rw [c4b0]|rw [c4b1]|(simp only [i64_w,i32_w]; rw [c4b0])|skip)
   have H':=Aside0.mk H
   clear H
   have hcz6_0:w3.cell? ⟨gb114,0,none⟩=some (.int .i64 a0_0):=(blk_cell BK114.out 0).trans rfl
   have hcz6_1:w3.cell? ⟨gb114,1,none⟩=some (.int .i64 a0_1):=(blk_cell BK114.out 1).trans rfl
   have hcz6_2:w3.cell? ⟨gb114,2,none⟩=some (.string a0_2):=(blk_cell BK114.out 2).trans rfl
   have hcz6_3:w3.cell? ⟨gb114,3,none⟩=some (.slice A0_3 l0_3.length c0_3):=(blk_cell BK114.out 3).trans rfl
   have hcz6_4:w3.cell? ⟨gb114,4,none⟩=some (.slice A0_4 l0_4.length c0_4):=(blk_cell BK114.out 4).trans rfl
   have hfz6_0:=blk_frozen BK114.out 0
   have hfz6_1:=blk_frozen BK114.out 1
   have hfz6_2:=blk_frozen BK114.out 2
   have hfz6_3:=blk_frozen BK114.out 3
   have hfz6_4:=blk_frozen BK114.out 4
   go_wp2
   go_meet
   case rel=>exact ⟨_,(decide ((l0_3.length:Int) > 0)),(by first|rfl|(simp; done)|(simp [*]; done)),H',⟨by first|omega|exact Nat.le_refl _⟩,⟨by (with_reducible repeat (first|refine blk_drewN ?_ _|refine blk_drew ?_|refine blk_alloc ?_ _)); exact BK114.out⟩,⟨by repeat (first|(with_reducible first|exact HB.out|apply below_alloc|apply pw_below_drewN|apply below_drew1|refine below_set ?_ GE114.out)|exact HB.out)⟩⟩
 case rest =>
  clear HC2
  try clear p2
  try clear c4
  try clear c4b0
  try clear c4b1
  try clear hcz5_0
  try clear hcz5_1
  try clear hcz5_2
  try clear hcz5_3
  try clear hcz5_4
  try clear hcz6_0
  try clear hcz6_1
  try clear hcz6_2
  try clear hcz6_3
  try clear hcz6_4
  try clear hfz5_0
  try clear hfz5_1
  try clear hfz5_2
  try clear hfz5_3
  try clear hfz5_4
  try clear hfz6_0
  try clear hfz6_1
  try clear hfz6_2
  try clear hfz6_3
  try clear hfz6_4
  obtain ⟨kq,x12_1,rfl,HA,HJ1,BK114,HB⟩:=hcut
  cases kq with
  |zero=>exact absurd HA.out (by simp [spec_l3Leaf.j0])
  |succ kj1 =>
   have H:=HA.out
   clear HA
   simp only [spec_l3Leaf.j0] at H
   by_cases c7:x12_1=true
   ·subst c7
    have H1:(some false)=some r:=by rw [if_pos rfl] at H; exact H
    clear H
    have H:=H1
    clear H1
    obtain rfl:=Option.some.inj H
    go_wp2
    go_ret
    exact ⟨by first|rfl|(simp [errW_none,errW_some]<;>rfl)|(simp [*,errW_none,errW_some]<;>rfl),by repeat (first|(with_reducible first|exact HB.out|apply below_alloc|apply pw_below_drewN|apply below_drew1|refine below_set ?_ GE114.out)|exact HB.out)⟩
   ·replace c7:=Bool.eq_false_iff.mpr c7
    subst c7
    have H1:(if a0_0=0 then (if a0_1=0 then (some (a0_2.toList == ([]:List UInt8))) else (some false)) else (if a0_0=1 then ((spec_l1In.f a0_1 0 1).bind fun t115=>(if t115=true then (some (a0_2.toList == ([]:List UInt8))) else (some false))) else (if a0_0=2 then ((spec_l1In.f a0_1 (-1000000000000) 1000000000000).bind fun t116=>(if t116=true then (some (a0_2.toList == ([]:List UInt8))) else (some false))) else (if a0_0=3 then (if a0_1=0 then ((spec_TextOk.f kj1 a0_2).bind fun t117=>(some t117)) else (some false)) else (some false)))))=some r:=by rw [if_neg (show ¬ (false=true) by decide)] at H; exact H
    clear H
    have H:=H1
    clear H1
    by_cases c8:a0_0=0
    ·rw [if_pos c8] at H
     have c8b0:(a0_0 == 0)=true:=beq_iff_eq.mpr c8
     have c8b1:(a0_0 != 0)=false:=bne_eq_false_iff_eq.mpr c8
     clear c8
     by_cases c9:a0_1=0
     ·rw [if_pos c9] at H
      have c9b0:(a0_1 == 0)=true:=beq_iff_eq.mpr c9
      have c9b1:(a0_1 != 0)=false:=bne_eq_false_iff_eq.mpr c9
      clear c9
      obtain rfl:=Option.some.inj H
      have hcz10_0:wc.cell? ⟨gb114,0,none⟩=some (.int .i64 a0_0):=(blk_cell BK114.out 0).trans rfl
      have hcz10_1:wc.cell? ⟨gb114,1,none⟩=some (.int .i64 a0_1):=(blk_cell BK114.out 1).trans rfl
      have hcz10_2:wc.cell? ⟨gb114,2,none⟩=some (.string a0_2):=(blk_cell BK114.out 2).trans rfl
      have hcz10_3:wc.cell? ⟨gb114,3,none⟩=some (.slice A0_3 l0_3.length c0_3):=(blk_cell BK114.out 3).trans rfl
      have hcz10_4:wc.cell? ⟨gb114,4,none⟩=some (.slice A0_4 l0_4.length c0_4):=(blk_cell BK114.out 4).trans rfl
      have hfz10_0:=blk_frozen BK114.out 0
      have hfz10_1:=blk_frozen BK114.out 1
      have hfz10_2:=blk_frozen BK114.out 2
      have hfz10_3:=blk_frozen BK114.out 3
      have hfz10_4:=blk_frozen BK114.out 4
      go_wp2
      go_ret
      exact ⟨by first|rfl|(simp [errW_none,errW_some]<;>rfl)|(simp [*,errW_none,errW_some]<;>rfl),by repeat (first|(with_reducible first|exact HB.out|apply below_alloc|apply pw_below_drewN|apply below_drew1|refine below_set ?_ GE114.out)|exact HB.out)⟩
     ·rw [if_neg c9] at H
      have c9b0:(a0_1 == 0)=false:=beq_eq_false_iff_ne.mpr c9
      have c9b1:(a0_1 != 0)=true:=bne_iff_ne.mpr c9
      obtain rfl:=Option.some.inj H
      have hcz11_0:wc.cell? ⟨gb114,0,none⟩=some (.int .i64 a0_0):=(blk_cell BK114.out 0).trans rfl
      have hcz11_1:wc.cell? ⟨gb114,1,none⟩=some (.int .i64 a0_1):=(blk_cell BK114.out 1).trans rfl
      have hcz11_2:wc.cell? ⟨gb114,2,none⟩=some (.string a0_2):=(blk_cell BK114.out 2).trans rfl
      have hcz11_3:wc.cell? ⟨gb114,3,none⟩=some (.slice A0_3 l0_3.length c0_3):=(blk_cell BK114.out 3).trans rfl
      have hcz11_4:wc.cell? ⟨gb114,4,none⟩=some (.slice A0_4 l0_4.length c0_4):=(blk_cell BK114.out 4).trans rfl
      have hfz11_0:=blk_frozen BK114.out 0
      have hfz11_1:=blk_frozen BK114.out 1
      have hfz11_2:=blk_frozen BK114.out 2
      have hfz11_3:=blk_frozen BK114.out 3
      have hfz11_4:=blk_frozen BK114.out 4
      go_wp2
      go_ret
      exact ⟨by first|rfl|(simp [errW_none,errW_some]<;>rfl)|(simp [*,errW_none,errW_some]<;>rfl),by repeat (first|(with_reducible first|exact HB.out|apply below_alloc|apply pw_below_drewN|apply below_drew1|refine below_set ?_ GE114.out)|exact HB.out)⟩
    ·rw [if_neg c8] at H
     have c8b0:(a0_0 == 0)=false:=beq_eq_false_iff_ne.mpr c8
     have c8b1:(a0_0 != 0)=true:=bne_iff_ne.mpr c8
     by_cases c12:a0_0=1
     ·rw [if_pos c12] at H
      have c12b0:(a0_0 == 1)=true:=beq_iff_eq.mpr c12
      have c12b1:(a0_0 != 1)=false:=bne_eq_false_iff_eq.mpr c12
      clear c12
      replace H:=Option.bind_eq_some_iff.mp H
      obtain ⟨t115,A130,H⟩:=H
      replace H:(if t115=true then (some (a0_2.toList == ([]:List UInt8))) else (some false))=some r:=H
      have A13:=Aside0.mk A130
      clear A130
      by_cases c14:t115=true
      ·subst c14
       have H1:(some (a0_2.toList == ([]:List UInt8)))=some r:=by rw [if_pos rfl] at H; exact H
       clear H
       have H:=H1
       clear H1
       obtain rfl:=Option.some.inj H
       have hcz15_0:wc.cell? ⟨gb114,0,none⟩=some (.int .i64 a0_0):=(blk_cell BK114.out 0).trans rfl
       have hcz15_1:wc.cell? ⟨gb114,1,none⟩=some (.int .i64 a0_1):=(blk_cell BK114.out 1).trans rfl
       have hcz15_2:wc.cell? ⟨gb114,2,none⟩=some (.string a0_2):=(blk_cell BK114.out 2).trans rfl
       have hcz15_3:wc.cell? ⟨gb114,3,none⟩=some (.slice A0_3 l0_3.length c0_3):=(blk_cell BK114.out 3).trans rfl
       have hcz15_4:wc.cell? ⟨gb114,4,none⟩=some (.slice A0_4 l0_4.length c0_4):=(blk_cell BK114.out 4).trans rfl
       have hfz15_0:=blk_frozen BK114.out 0
       have hfz15_1:=blk_frozen BK114.out 1
       have hfz15_2:=blk_frozen BK114.out 2
       have hfz15_3:=blk_frozen BK114.out 3
       have hfz15_4:=blk_frozen BK114.out 4
       go_wp2_with (first|((with_reducible refine gate_callee (f:=47) rfl ?_); refine goesL_ (some 29) rfl rfl Try.func47 (by kernel_rfl) rfl #[.int .i64 a0_1,.int .i64 0,.int .i64 1] rfl (by (try simp only [List.map_toArray,List.map_cons,List.map_nil]); first|done|rfl|(simp only [List.length_drop,List.length_take]; rfl)) ?_; (with_reducible refine (spec_l1In.calls a0_1 0 1 true _ A13.out).mono ?_); rintro e w' ⟨rfl,⟨nd,rfl⟩⟩; refine ⟨_,rfl,?_⟩))
       go_ret
       exact ⟨by first|rfl|(simp [errW_none,errW_some]<;>rfl)|(simp [*,errW_none,errW_some]<;>rfl),by repeat (first|(with_reducible first|exact HB.out|apply below_alloc|apply pw_below_drewN|apply below_drew1|refine below_set ?_ GE114.out)|exact HB.out)⟩
      ·replace c14:=Bool.eq_false_iff.mpr c14
       subst c14
       have H1:(some false)=some r:=by rw [if_neg (show ¬ (false=true) by decide)] at H; exact H
       clear H
       have H:=H1
       clear H1
       obtain rfl:=Option.some.inj H
       have hcz16_0:wc.cell? ⟨gb114,0,none⟩=some (.int .i64 a0_0):=(blk_cell BK114.out 0).trans rfl
       have hcz16_1:wc.cell? ⟨gb114,1,none⟩=some (.int .i64 a0_1):=(blk_cell BK114.out 1).trans rfl
       have hcz16_2:wc.cell? ⟨gb114,2,none⟩=some (.string a0_2):=(blk_cell BK114.out 2).trans rfl
       have hcz16_3:wc.cell? ⟨gb114,3,none⟩=some (.slice A0_3 l0_3.length c0_3):=(blk_cell BK114.out 3).trans rfl
       have hcz16_4:wc.cell? ⟨gb114,4,none⟩=some (.slice A0_4 l0_4.length c0_4):=(blk_cell BK114.out 4).trans rfl
       have hfz16_0:=blk_frozen BK114.out 0
       have hfz16_1:=blk_frozen BK114.out 1
       have hfz16_2:=blk_frozen BK114.out 2
       have hfz16_3:=blk_frozen BK114.out 3
       have hfz16_4:=blk_frozen BK114.out 4
       go_wp2_with (first|((with_reducible refine gate_callee (f:=47) rfl ?_); refine goesL_ (some 29) rfl rfl Try.func47 (by kernel_rfl) rfl #[.int .i64 a0_1,.int .i64 0,.int .i64 1] rfl (by (try simp only [List.map_toArray,List.map_cons,List.map_nil]); first|done|rfl|(simp only [List.length_drop,List.length_take]; rfl)) ?_; (with_reducible refine (spec_l1In.calls a0_1 0 1 false _ A13.out).mono ?_); rintro e w' ⟨rfl,⟨nd,rfl⟩⟩; refine ⟨_,rfl,?_⟩))
       go_ret
       exact ⟨by first|rfl|(simp [errW_none,errW_some]<;>rfl)|(simp [*,errW_none,errW_some]<;>rfl),by repeat (first|(with_reducible first|exact HB.out|apply below_alloc|apply pw_below_drewN|apply below_drew1|refine below_set ?_ GE114.out)|exact HB.out)⟩
     ·rw [if_neg c12] at H
      have c12b0:(a0_0 == 1)=false:=beq_eq_false_iff_ne.mpr c12
      have c12b1:(a0_0 != 1)=true:=bne_iff_ne.mpr c12
      by_cases c17:a0_0=2
      ·rw [if_pos c17] at H
       have c17b0:(a0_0 == 2)=true:=beq_iff_eq.mpr c17
       have c17b1:(a0_0 != 2)=false:=bne_eq_false_iff_eq.mpr c17
       clear c17
       replace H:=Option.bind_eq_some_iff.mp H
       obtain ⟨t116,A180,H⟩:=H
       replace H:(if t116=true then (some (a0_2.toList == ([]:List UInt8))) else (some false))=some r:=H
       have A18:=Aside0.mk A180
       clear A180
       by_cases c19:t116=true
       ·subst c19
        have H1:(some (a0_2.toList == ([]:List UInt8)))=some r:=by rw [if_pos rfl] at H; exact H
        clear H
        have H:=H1
        clear H1
        obtain rfl:=Option.some.inj H
        have hcz20_0:wc.cell? ⟨gb114,0,none⟩=some (.int .i64 a0_0):=(blk_cell BK114.out 0).trans rfl
        have hcz20_1:wc.cell? ⟨gb114,1,none⟩=some (.int .i64 a0_1):=(blk_cell BK114.out 1).trans rfl
        have hcz20_2:wc.cell? ⟨gb114,2,none⟩=some (.string a0_2):=(blk_cell BK114.out 2).trans rfl
        have hcz20_3:wc.cell? ⟨gb114,3,none⟩=some (.slice A0_3 l0_3.length c0_3):=(blk_cell BK114.out 3).trans rfl
        have hcz20_4:wc.cell? ⟨gb114,4,none⟩=some (.slice A0_4 l0_4.length c0_4):=(blk_cell BK114.out 4).trans rfl
        have hfz20_0:=blk_frozen BK114.out 0
        have hfz20_1:=blk_frozen BK114.out 1
        have hfz20_2:=blk_frozen BK114.out 2
        have hfz20_3:=blk_frozen BK114.out 3
        have hfz20_4:=blk_frozen BK114.out 4
        go_wp2_with (first|((with_reducible refine gate_callee (f:=47) rfl ?_); refine goesL_ (some 39) rfl rfl Try.func47 (by kernel_rfl) rfl #[.int .i64 a0_1,.int .i64 (-1000000000000),.int .i64 1000000000000] rfl (by (try simp only [List.map_toArray,List.map_cons,List.map_nil]); first|done|rfl|(simp only [List.length_drop,List.length_take]; rfl)) ?_; (with_reducible refine (spec_l1In.calls a0_1 (-1000000000000) 1000000000000 true _ A18.out).mono ?_); rintro e w' ⟨rfl,⟨nd,rfl⟩⟩; refine ⟨_,rfl,?_⟩))
        go_ret
        exact ⟨by first|rfl|(simp [errW_none,errW_some]<;>rfl)|(simp [*,errW_none,errW_some]<;>rfl),by repeat (first|(with_reducible first|exact HB.out|apply below_alloc|apply pw_below_drewN|apply below_drew1|refine below_set ?_ GE114.out)|exact HB.out)⟩
       ·replace c19:=Bool.eq_false_iff.mpr c19
        subst c19
        have H1:(some false)=some r:=by rw [if_neg (show ¬ (false=true) by decide)] at H; exact H
        clear H
        have H:=H1
        clear H1
        obtain rfl:=Option.some.inj H
        have hcz21_0:wc.cell? ⟨gb114,0,none⟩=some (.int .i64 a0_0):=(blk_cell BK114.out 0).trans rfl
        have hcz21_1:wc.cell? ⟨gb114,1,none⟩=some (.int .i64 a0_1):=(blk_cell BK114.out 1).trans rfl
        have hcz21_2:wc.cell? ⟨gb114,2,none⟩=some (.string a0_2):=(blk_cell BK114.out 2).trans rfl
        have hcz21_3:wc.cell? ⟨gb114,3,none⟩=some (.slice A0_3 l0_3.length c0_3):=(blk_cell BK114.out 3).trans rfl
        have hcz21_4:wc.cell? ⟨gb114,4,none⟩=some (.slice A0_4 l0_4.length c0_4):=(blk_cell BK114.out 4).trans rfl
        have hfz21_0:=blk_frozen BK114.out 0
        have hfz21_1:=blk_frozen BK114.out 1
        have hfz21_2:=blk_frozen BK114.out 2
        have hfz21_3:=blk_frozen BK114.out 3
        have hfz21_4:=blk_frozen BK114.out 4
        go_wp2_with (first|((with_reducible refine gate_callee (f:=47) rfl ?_); refine goesL_ (some 39) rfl rfl Try.func47 (by kernel_rfl) rfl #[.int .i64 a0_1,.int .i64 (-1000000000000),.int .i64 1000000000000] rfl (by (try simp only [List.map_toArray,List.map_cons,List.map_nil]); first|done|rfl|(simp only [List.length_drop,List.length_take]; rfl)) ?_; (with_reducible refine (spec_l1In.calls a0_1 (-1000000000000) 1000000000000 false _ A18.out).mono ?_); rintro e w' ⟨rfl,⟨nd,rfl⟩⟩; refine ⟨_,rfl,?_⟩))
        go_ret
        exact ⟨by first|rfl|(simp [errW_none,errW_some]<;>rfl)|(simp [*,errW_none,errW_some]<;>rfl),by repeat (first|(with_reducible first|exact HB.out|apply below_alloc|apply pw_below_drewN|apply below_drew1|refine below_set ?_ GE114.out)|exact HB.out)⟩
      ·rw [if_neg c17] at H
       have c17b0:(a0_0 == 2)=false:=beq_eq_false_iff_ne.mpr c17
       have c17b1:(a0_0 != 2)=true:=bne_iff_ne.mpr c17
       by_cases c22:a0_0=3
       ·rw [if_pos c22] at H
        have c22b0:(a0_0 == 3)=true:=beq_iff_eq.mpr c22
        have c22b1:(a0_0 != 3)=false:=bne_eq_false_iff_eq.mpr c22
        clear c22
        by_cases c23:a0_1=0
        ·rw [if_pos c23] at H
         have c23b0:(a0_1 == 0)=true:=beq_iff_eq.mpr c23
         have c23b1:(a0_1 != 0)=false:=bne_eq_false_iff_eq.mpr c23
         clear c23
         replace H:=Option.bind_eq_some_iff.mp H
         obtain ⟨t117,A240,H⟩:=H
         replace H:(some t117)=some r:=H
         have A24:=Aside0.mk A240
         clear A240
         obtain rfl:=Option.some.inj H
         have hcz25_0:wc.cell? ⟨gb114,0,none⟩=some (.int .i64 a0_0):=(blk_cell BK114.out 0).trans rfl
         have hcz25_1:wc.cell? ⟨gb114,1,none⟩=some (.int .i64 a0_1):=(blk_cell BK114.out 1).trans rfl
         have hcz25_2:wc.cell? ⟨gb114,2,none⟩=some (.string a0_2):=(blk_cell BK114.out 2).trans rfl
         have hcz25_3:wc.cell? ⟨gb114,3,none⟩=some (.slice A0_3 l0_3.length c0_3):=(blk_cell BK114.out 3).trans rfl
         have hcz25_4:wc.cell? ⟨gb114,4,none⟩=some (.slice A0_4 l0_4.length c0_4):=(blk_cell BK114.out 4).trans rfl
         have hfz25_0:=blk_frozen BK114.out 0
         have hfz25_1:=blk_frozen BK114.out 1
         have hfz25_2:=blk_frozen BK114.out 2
         have hfz25_3:=blk_frozen BK114.out 3
         have hfz25_4:=blk_frozen BK114.out 4
         go_wp2_with (first|(go_at_call 93; (with_reducible refine (spec_TextOk.calls kj1 a0_2 t117 _ A24.out).mono ?_); rintro e w' ⟨rfl,⟨nd,rfl⟩⟩))
         go_ret
         exact ⟨by first|rfl|(simp [errW_none,errW_some]<;>rfl)|(simp [*,errW_none,errW_some]<;>rfl),by repeat (first|(with_reducible first|exact HB.out|apply below_alloc|apply pw_below_drewN|apply below_drew1|refine below_set ?_ GE114.out)|exact HB.out)⟩
        ·rw [if_neg c23] at H
         have c23b0:(a0_1 == 0)=false:=beq_eq_false_iff_ne.mpr c23
         have c23b1:(a0_1 != 0)=true:=bne_iff_ne.mpr c23
         obtain rfl:=Option.some.inj H
         have hcz26_0:wc.cell? ⟨gb114,0,none⟩=some (.int .i64 a0_0):=(blk_cell BK114.out 0).trans rfl
         have hcz26_1:wc.cell? ⟨gb114,1,none⟩=some (.int .i64 a0_1):=(blk_cell BK114.out 1).trans rfl
         have hcz26_2:wc.cell? ⟨gb114,2,none⟩=some (.string a0_2):=(blk_cell BK114.out 2).trans rfl
         have hcz26_3:wc.cell? ⟨gb114,3,none⟩=some (.slice A0_3 l0_3.length c0_3):=(blk_cell BK114.out 3).trans rfl
         have hcz26_4:wc.cell? ⟨gb114,4,none⟩=some (.slice A0_4 l0_4.length c0_4):=(blk_cell BK114.out 4).trans rfl
         have hfz26_0:=blk_frozen BK114.out 0
         have hfz26_1:=blk_frozen BK114.out 1
         have hfz26_2:=blk_frozen BK114.out 2
         have hfz26_3:=blk_frozen BK114.out 3
         have hfz26_4:=blk_frozen BK114.out 4
         go_wp2
         go_ret
         exact ⟨by first|rfl|(simp [errW_none,errW_some]<;>rfl)|(simp [*,errW_none,errW_some]<;>rfl),by repeat (first|(with_reducible first|exact HB.out|apply below_alloc|apply pw_below_drewN|apply below_drew1|refine below_set ?_ GE114.out)|exact HB.out)⟩
       ·rw [if_neg c22] at H
        have c22b0:(a0_0 == 3)=false:=beq_eq_false_iff_ne.mpr c22
        have c22b1:(a0_0 != 3)=true:=bne_iff_ne.mpr c22
        obtain rfl:=Option.some.inj H
        have hcz27_0:wc.cell? ⟨gb114,0,none⟩=some (.int .i64 a0_0):=(blk_cell BK114.out 0).trans rfl
        have hcz27_1:wc.cell? ⟨gb114,1,none⟩=some (.int .i64 a0_1):=(blk_cell BK114.out 1).trans rfl
        have hcz27_2:wc.cell? ⟨gb114,2,none⟩=some (.string a0_2):=(blk_cell BK114.out 2).trans rfl
        have hcz27_3:wc.cell? ⟨gb114,3,none⟩=some (.slice A0_3 l0_3.length c0_3):=(blk_cell BK114.out 3).trans rfl
        have hcz27_4:wc.cell? ⟨gb114,4,none⟩=some (.slice A0_4 l0_4.length c0_4):=(blk_cell BK114.out 4).trans rfl
        have hfz27_0:=blk_frozen BK114.out 0
        have hfz27_1:=blk_frozen BK114.out 1
        have hfz27_2:=blk_frozen BK114.out 2
        have hfz27_3:=blk_frozen BK114.out 3
        have hfz27_4:=blk_frozen BK114.out 4
        go_wp2
        go_ret
        exact ⟨by first|rfl|(simp [errW_none,errW_some]<;>rfl)|(simp [*,errW_none,errW_some]<;>rfl),by repeat (first|(with_reducible first|exact HB.out|apply below_alloc|apply pw_below_drewN|apply below_drew1|refine below_set ?_ GE114.out)|exact HB.out)⟩
def spec_l3Keys.l0:Nat→List ByteArray→Int→Option (Bool)
 |0,_,_=>none
 |k+1,x0,x3=>if x3<(x0.length:Int) then (if 0≤x3 then ((spec_TextOk.f k (rdOf ByteArray.empty x0 x3)).bind fun t119=>(if t119=true then (if x3 > 0 then (if 0≤(wrap64 (x3-1)) then (if (wrap64 (x3-1))<(x0.length:Int) then (if ((Op.bytesLess ((rdOf ByteArray.empty x0 (wrap64 (x3-1))).toList) ((rdOf ByteArray.empty x0 x3).toList))=true) then (spec_l3Keys.l0 k x0 (wrap64 (x3+1))) else (some false)) else (none)) else (none)) else (spec_l3Keys.l0 k x0 (wrap64 (x3+1)))) else (some false))) else (none)) else (some true)
def spec_l3Keys.f (k:Nat) (l0:List ByteArray):Option (Bool):=spec_l3Keys.l0 k l0 0
theorem spec_l3Keys.mono_l:∀ k,(∀ y0 y1,LeO (spec_l3Keys.l0 k y0 y1) (spec_l3Keys.l0 (k+1) y0 y1))
 |0=>fun _ _ r h=>by simp [spec_l3Keys.l0] at h
 |k+1=>by
  have ih0:=spec_l3Keys.mono_l k
  ·intro y0 y1
   unfold spec_l3Keys.l0
   repeat' first
   |(with_reducible exact ih0 _ _)
   |(with_reducible exact spec_TextOk.mono _ _)
   |(with_reducible exact LeO.refl _)
   |(with_reducible exact LeO.none _)
   |(with_reducible refine LeO.ite ?_ ?_)
   |(with_reducible refine LeO.bind ?_ (fun _=>?_))
   |exact ih0 _ _
   |exact spec_TextOk.mono _ _
   |exact LeO.none _
   |refine LeO.ite ?_ ?_
   |refine LeO.bind ?_ (fun _=>?_)
theorem spec_l3Keys.mono:∀ a0 k,LeO (spec_l3Keys.f k a0) (spec_l3Keys.f (k+1) a0):=by
 intro a0 k
 have ih0:=spec_l3Keys.mono_l k
 unfold spec_l3Keys.f
 repeat' first
   |(with_reducible exact ih0 _ _)
   |(with_reducible exact spec_TextOk.mono _ _)
   |(with_reducible exact LeO.refl _)
   |(with_reducible exact LeO.none _)
   |(with_reducible refine LeO.ite ?_ ?_)
   |(with_reducible refine LeO.bind ?_ (fun _=>?_))
   |exact ih0 _ _
   |exact spec_TextOk.mono _ _
   |exact LeO.none _
   |refine LeO.ite ?_ ?_
   |refine LeO.bind ?_ (fun _=>?_)
set_option maxHeartbeats 8000000 in
set_option maxRecDepth 100000 in
theorem spec_l3Keys.calls (k:Nat) (A0:Option Addr) (c0:Nat) (l0:List ByteArray) (r:Bool) (w:World) (hr0:Kd.C Kd.string w A0 l0.length l0) (hc0:l0.length≤c0) (h:spec_l3Keys.f k l0=some r) :
  Calls Try.prog 75 #[.slice A0 l0.length c0] w fun e w'=>e=.returned (.bool r)∧Drawn0 w w':=by
 have HR0:=Aside0.mk hr0
 have HC0:=Aside0.mk hc0
 clear hr0 hc0
 have H:(spec_l3Keys.l0 k l0 0)=some r:=h
 clear h
 have H':=Aside0.mk H
 clear H
 go_enter Try.func75,Try.ntmps75
 go_wp2
 repeat (go_quiet (fail); try go_wp2)
 go_loopg [3] k (fun kq v3 w'=>∃ (x3_1:Int),v3=.int .i64 x3_1∧Aside0 (spec_l3Keys.l0 kq l0 x3_1=some r)∧Aside0 (kq≤k)∧Drawn0 w w')
 case atStart=>exact ⟨(0),(by first|rfl|(simp; done)|(simp [*]; done)),H',⟨Nat.le_refl _⟩,by repeat (first|exact Drawn0.refl _|apply Drawn0.step)⟩
 case round =>
  clear H'
  obtain ⟨x3_1,rfl,HA,HK1,⟨m1,rfl⟩⟩:=hrel
  cases gk with
  |zero=>exact absurd HA.out (by simp [spec_l3Keys.l0])
  |succ k1 =>
   have H:=HA.out
   clear HA
   simp only [spec_l3Keys.l0] at H
   by_cases c2:x3_1<(l0.length:Int)
   ·rw [if_pos c2] at H
    have c2b0:decide (x3_1<(l0.length:Int))=true:=decide_eq_true c2
    clear c2
    by_cases c3:0≤x3_1
    ·rw [if_pos c3] at H
     have c3b0:decide (0≤x3_1)=true:=decide_eq_true c3
     clear c3
     replace H:=Option.bind_eq_some_iff.mp H
     obtain ⟨t119,A40,H⟩:=H
     replace H:(if t119=true then (if x3_1 > 0 then (if 0≤(wrap64 (x3_1-1)) then (if (wrap64 (x3_1-1))<(l0.length:Int) then (if ((Op.bytesLess ((rdOf ByteArray.empty l0 (wrap64 (x3_1-1))).toList) ((rdOf ByteArray.empty l0 x3_1).toList))=true) then (spec_l3Keys.l0 k1 l0 (wrap64 (x3_1+1))) else (some false)) else (none)) else (none)) else (spec_l3Keys.l0 k1 l0 (wrap64 (x3_1+1)))) else (some false))=some r:=H
     have A4:=Aside0.mk A40
     clear A40
     by_cases c5:t119=true
     ·subst c5
      have H1:(if x3_1 > 0 then (if 0≤(wrap64 (x3_1-1)) then (if (wrap64 (x3_1-1))<(l0.length:Int) then (if ((Op.bytesLess ((rdOf ByteArray.empty l0 (wrap64 (x3_1-1))).toList) ((rdOf ByteArray.empty l0 x3_1).toList))=true) then (spec_l3Keys.l0 k1 l0 (wrap64 (x3_1+1))) else (some false)) else (none)) else (none)) else (spec_l3Keys.l0 k1 l0 (wrap64 (x3_1+1))))=some r:=by rw [if_pos rfl] at H; exact H
      clear H
      have H:=H1
      clear H1
      by_cases c6:x3_1 > 0
      ·rw [if_pos c6] at H
       have c6b0:decide (0<x3_1)=true:=decide_eq_true c6
       clear c6
       obtain ⟨ji7,hji7⟩:∃ j_:Int,(wrap64 (x3_1-1))=j_:=⟨_,rfl⟩
       replace H:(if 0≤(ji7) then (if (ji7)<(l0.length:Int) then (if ((Op.bytesLess ((rdOf ByteArray.empty l0 (ji7)).toList) ((rdOf ByteArray.empty l0 x3_1).toList))=true) then (spec_l3Keys.l0 k1 l0 (wrap64 (x3_1+1))) else (some false)) else (none)) else (none))=some r:=by first|(rw [hji7] at H; exact H)|(simp only [hji7] at H ⊢; exact H)
       (try rw [hji7] at A4)
       have hji7w:(IntKind.i64.wrap (x3_1-1))=ji7:=(i64_w _).trans hji7
       by_cases c8:0≤(ji7)
       ·rw [if_pos c8] at H
        have c8b0:decide (0≤(ji7))=true:=decide_eq_true c8
        clear c8
        by_cases c9:(ji7)<(l0.length:Int)
        ·rw [if_pos c9] at H
         have c9b0:decide ((ji7)<(l0.length:Int))=true:=decide_eq_true c9
         clear c9
         have HC10:=Aside0.mk H
         clear H
         have p118:0≤(x3_1:Int):=of_decide_eq_true (by first|(with_reducible assumption)|assumption)
         have q118:x3_1<(l0.length:Int):=of_decide_eq_true (by first|(with_reducible assumption)|assumption)
         obtain ⟨ad118,e118,hx118_0⟩:=Kd.at_string HR0.out x3_1 p118 q118
         cases e118
         replace p118:=eq_true p118
         replace q118:=eq_true q118
         have p120:0≤((ji7):Int):=of_decide_eq_true (by first|(with_reducible assumption)|assumption); have q120:(ji7)<(l0.length:Int):=of_decide_eq_true (by first|(with_reducible assumption)|assumption); obtain ⟨ad120,e120,hx120_0⟩:=Kd.at_string HR0.out (ji7) p120 q120; obtain rfl:ad118=ad120:=(by injection e120); replace p120:=eq_true p120; replace q120:=eq_true q120; have p121:0≤(x3_1:Int):=of_decide_eq_true (by first|(with_reducible assumption)|assumption); have q121:x3_1<(l0.length:Int):=of_decide_eq_true (by first|(with_reducible assumption)|assumption); obtain ⟨ad121,e121,hx121_0⟩:=Kd.at_string HR0.out x3_1 p121 q121; obtain rfl:ad118=ad121:=(by injection e121); replace p121:=eq_true p121; replace q121:=eq_true q121
         go_upto_if 31 with (first|(go_at_call 93; (with_reducible refine (spec_TextOk.calls k1 (rdOf ByteArray.empty l0 x3_1) true _ A4.out).mono ?_); rintro e w' ⟨rfl,⟨nd,rfl⟩⟩; (try first|exact ⟨rfl,_,World.drewN_drewN _ _ _⟩|exact ⟨rfl,_,Eq.trans (World.drewN_drewN _ _ _) (congrArg (World.drewN _) (Nat.add_assoc _ _ _))⟩)))
         repeat (go_quiet (first|(go_at_call 93; (with_reducible refine (spec_TextOk.calls k1 (rdOf ByteArray.empty l0 x3_1) true _ A4.out).mono ?_); rintro e w' ⟨rfl,⟨nd,rfl⟩⟩; (try first|exact ⟨rfl,_,World.drewN_drewN _ _ _⟩|exact ⟨rfl,_,Eq.trans (World.drewN_drewN _ _ _) (congrArg (World.drewN _) (Nat.add_assoc _ _ _))⟩))); go_upto_if 31 with (first|(go_at_call 93; (with_reducible refine (spec_TextOk.calls k1 (rdOf ByteArray.empty l0 x3_1) true _ A4.out).mono ?_); rintro e w' ⟨rfl,⟨nd,rfl⟩⟩; (try first|exact ⟨rfl,_,World.drewN_drewN _ _ _⟩|exact ⟨rfl,_,Eq.trans (World.drewN_drewN _ _ _) (congrArg (World.drewN _) (Nat.add_assoc _ _ _))⟩))))
         (try simp only [Act.put,List.setIfInBounds_toArray,List.set_cons_zero,List.set_cons_succ])
         try clear hx118_0; try clear hx120_0; try clear hx121_0
         have H:=HC10.out
         clear HC10
         by_cases c11:((Op.bytesLess ((rdOf ByteArray.empty l0 (ji7)).toList) ((rdOf ByteArray.empty l0 x3_1).toList))=true)
         ·rw [if_pos c11] at H
          have c11b0:(Op.bytesLess ((rdOf ByteArray.empty l0 (ji7)).toList) ((rdOf ByteArray.empty l0 x3_1).toList))=true:=c11
          clear c11
          (first|rw [c11b0]|(simp only [i64_w,i32_w]; rw [c11b0])|skip)
          have H':=Aside0.mk H
          clear H
          go_wp2
          repeat (go_quiet (fail); try go_wp2)
          go_roundg k1
          case measure=>have:=HK1.out; omega
          case rel=>exact ⟨(wrap64 (x3_1+1)),(by first|rfl|(simp; done)|(simp [*]; done)),H',⟨by have:=HK1.out; omega⟩,by repeat (first|exact Drawn0.refl _|apply Drawn0.step)⟩
         ·rw [if_neg c11] at H
          have c11b0:(Op.bytesLess ((rdOf ByteArray.empty l0 (ji7)).toList) ((rdOf ByteArray.empty l0 x3_1).toList))=false:=by simpa using c11
          clear c11
          (first|rw [c11b0]|(simp only [i64_w,i32_w]; rw [c11b0])|skip)
          obtain rfl:=Option.some.inj H
          go_wp2
          repeat (go_quiet (fail); try go_wp2)
          go_ret
          exact ⟨by first|rfl|(simp; done)|(simp only [← hji7]<;>(first|rfl|simp))|(simp [*]; done),by repeat (first|exact Drawn0.refl _|apply Drawn0.step)⟩
        ·rw [if_neg c9] at H
         exact absurd H (by simp)
       ·rw [if_neg c8] at H
        exact absurd H (by simp)
      ·rw [if_neg c6] at H
       have c6b0:decide (0<x3_1)=false:=decide_eq_false c6
       clear c6
       have H':=Aside0.mk H
       clear H
       have p118:0≤(x3_1:Int):=of_decide_eq_true (by first|(with_reducible assumption)|assumption)
       have q118:x3_1<(l0.length:Int):=of_decide_eq_true (by first|(with_reducible assumption)|assumption)
       obtain ⟨ad118,e118,hx118_0⟩:=Kd.at_string HR0.out x3_1 p118 q118
       cases e118
       replace p118:=eq_true p118
       replace q118:=eq_true q118
       go_wp2_with (first|(go_at_call 93; (with_reducible refine (spec_TextOk.calls k1 (rdOf ByteArray.empty l0 x3_1) true _ A4.out).mono ?_); rintro e w' ⟨rfl,⟨nd,rfl⟩⟩; (try first|exact ⟨rfl,_,World.drewN_drewN _ _ _⟩|exact ⟨rfl,_,Eq.trans (World.drewN_drewN _ _ _) (congrArg (World.drewN _) (Nat.add_assoc _ _ _))⟩)))
       repeat (go_quiet (first|(go_at_call 93; (with_reducible refine (spec_TextOk.calls k1 (rdOf ByteArray.empty l0 x3_1) true _ A4.out).mono ?_); rintro e w' ⟨rfl,⟨nd,rfl⟩⟩; (try first|exact ⟨rfl,_,World.drewN_drewN _ _ _⟩|exact ⟨rfl,_,Eq.trans (World.drewN_drewN _ _ _) (congrArg (World.drewN _) (Nat.add_assoc _ _ _))⟩))); try go_wp2_with (first|(go_at_call 93; (with_reducible refine (spec_TextOk.calls k1 (rdOf ByteArray.empty l0 x3_1) true _ A4.out).mono ?_); rintro e w' ⟨rfl,⟨nd,rfl⟩⟩; (try first|exact ⟨rfl,_,World.drewN_drewN _ _ _⟩|exact ⟨rfl,_,Eq.trans (World.drewN_drewN _ _ _) (congrArg (World.drewN _) (Nat.add_assoc _ _ _))⟩))))
       go_roundg k1
       case measure=>have:=HK1.out; omega
       case rel=>exact ⟨(wrap64 (x3_1+1)),(by first|rfl|(simp; done)|(simp [*]; done)),H',⟨by have:=HK1.out; omega⟩,by repeat (first|exact Drawn0.refl _|apply Drawn0.step)⟩
     ·replace c5:=Bool.eq_false_iff.mpr c5
      subst c5
      have H1:(some false)=some r:=by rw [if_neg (show ¬ (false=true) by decide)] at H; exact H
      clear H
      have H:=H1
      clear H1
      obtain rfl:=Option.some.inj H
      have p118:0≤(x3_1:Int):=of_decide_eq_true (by first|(with_reducible assumption)|assumption)
      have q118:x3_1<(l0.length:Int):=of_decide_eq_true (by first|(with_reducible assumption)|assumption)
      obtain ⟨ad118,e118,hx118_0⟩:=Kd.at_string HR0.out x3_1 p118 q118
      cases e118
      replace p118:=eq_true p118
      replace q118:=eq_true q118
      go_wp2_with (first|(go_at_call 93; (with_reducible refine (spec_TextOk.calls k1 (rdOf ByteArray.empty l0 x3_1) false _ A4.out).mono ?_); rintro e w' ⟨rfl,⟨nd,rfl⟩⟩; (try first|exact ⟨rfl,_,World.drewN_drewN _ _ _⟩|exact ⟨rfl,_,Eq.trans (World.drewN_drewN _ _ _) (congrArg (World.drewN _) (Nat.add_assoc _ _ _))⟩)))
      repeat (go_quiet (first|(go_at_call 93; (with_reducible refine (spec_TextOk.calls k1 (rdOf ByteArray.empty l0 x3_1) false _ A4.out).mono ?_); rintro e w' ⟨rfl,⟨nd,rfl⟩⟩; (try first|exact ⟨rfl,_,World.drewN_drewN _ _ _⟩|exact ⟨rfl,_,Eq.trans (World.drewN_drewN _ _ _) (congrArg (World.drewN _) (Nat.add_assoc _ _ _))⟩))); try go_wp2_with (first|(go_at_call 93; (with_reducible refine (spec_TextOk.calls k1 (rdOf ByteArray.empty l0 x3_1) false _ A4.out).mono ?_); rintro e w' ⟨rfl,⟨nd,rfl⟩⟩; (try first|exact ⟨rfl,_,World.drewN_drewN _ _ _⟩|exact ⟨rfl,_,Eq.trans (World.drewN_drewN _ _ _) (congrArg (World.drewN _) (Nat.add_assoc _ _ _))⟩))))
      go_ret
      exact ⟨by first|rfl|(simp; done)|(simp [*]; done),by repeat (first|exact Drawn0.refl _|apply Drawn0.step)⟩
    ·rw [if_neg c3] at H
     exact absurd H (by simp)
   ·rw [if_neg c2] at H
    have c2b0:decide (x3_1<(l0.length:Int))=false:=decide_eq_false c2
    clear c2
    obtain rfl:=Option.some.inj H
    go_wp2
    repeat (go_quiet (fail); try go_wp2)
    go_ret
    exact ⟨by first|rfl|(simp; done)|(simp [*]; done),by repeat (first|exact Drawn0.refl _|apply Drawn0.step)⟩
end
end Go.Proofs.Ytdlhidjphaaklaa.P
