import Derived.Test.YtdlhidjphaaklaaP0
import Derived.Test.YtdlhidjphaaklaaP_spec_l3Right
namespace Go.Proofs.Ytdlhidjphaaklaa.P
open Go.RowKit Go.Proofs.YtdlhidjphaaklaaW.PrintWords Go.Proofs.YtdlhidjphaaklaaW.PrintLast Go.Proofs.YtdlhidjphaaklaaW.PrintMore
attribute [local go_sem] max2_int min2_int max_two min_two max_three min_three max_four min_four
set_option linter.unusedVariables false
set_option linter.unusedSimpArgs false
noncomputable section
def spec_l7In.l0:Nat→List ByteArray→ByteArray→Int→Option (Bool)
 |0,_,_,_=>none
 |k+1,x0,x1,x5=>if x5<(x0.length:Int) then (if 0≤x5 then (if (rdOf ByteArray.empty x0 x5).toList=x1.toList then (some true) else (spec_l7In.l0 k x0 x1 (wrap64 (x5+1)))) else (none)) else (some false)
def spec_l7In.f (k:Nat) (l0:List ByteArray) (a1:ByteArray):Option (Bool):=spec_l7In.l0 k l0 a1 0
theorem spec_l7In.mono_l:∀ k,(∀ y0 y1 y2,LeO (spec_l7In.l0 k y0 y1 y2) (spec_l7In.l0 (k+1) y0 y1 y2))
 |0=>fun _ _ _ r h=>by simp [spec_l7In.l0] at h
 |k+1=>by
  have ih0:=spec_l7In.mono_l k
  ·intro y0 y1 y2
   unfold spec_l7In.l0
   repeat' first
   |(with_reducible exact ih0 _ _ _)
   |(with_reducible exact LeO.refl _)
   |(with_reducible exact LeO.none _)
   |(with_reducible refine LeO.ite ?_ ?_)
   |(with_reducible refine LeO.bind ?_ (fun _=>?_))
   |exact ih0 _ _ _
   |exact LeO.none _
   |refine LeO.ite ?_ ?_
   |refine LeO.bind ?_ (fun _=>?_)
theorem spec_l7In.mono:∀ a0 a1 k,LeO (spec_l7In.f k a0 a1) (spec_l7In.f (k+1) a0 a1):=by
 intro a0 a1 k
 have ih0:=spec_l7In.mono_l k
 unfold spec_l7In.f
 repeat' first
   |(with_reducible exact ih0 _ _ _)
   |(with_reducible exact LeO.refl _)
   |(with_reducible exact LeO.none _)
   |(with_reducible refine LeO.ite ?_ ?_)
   |(with_reducible refine LeO.bind ?_ (fun _=>?_))
   |exact ih0 _ _ _
   |exact LeO.none _
   |refine LeO.ite ?_ ?_
   |refine LeO.bind ?_ (fun _=>?_)
set_option maxHeartbeats 8000000 in
set_option maxRecDepth 100000 in
theorem spec_l7In.calls (k:Nat) (A0:Option Addr) (c0:Nat) (l0:List ByteArray) (a1:ByteArray) (r:Bool) (w:World) (hr0:Kd.C Kd.string w A0 l0.length l0) (hc0:l0.length≤c0) (h:spec_l7In.f k l0 a1=some r) :
  Calls Try.prog 44 #[.slice A0 l0.length c0,.string a1] w fun e w'=>e=.returned (.bool r)∧Drawn0 w w':=by
 have HR0:=Aside0.mk hr0
 have HC0:=Aside0.mk hc0
 clear hr0 hc0
 have H:(spec_l7In.l0 k l0 a1 0)=some r:=h
 clear h
 have H':=Aside0.mk H
 clear H
 go_enter Try.func44,Try.ntmps44
 go_wp2
 go_loopg [5] k (fun kq v5 w'=>∃ (x5_1:Int),v5=.int .i64 x5_1∧Aside0 (spec_l7In.l0 kq l0 a1 x5_1=some r)∧Aside0 (kq≤k)∧Drawn0 w w')
 case atStart=>exact ⟨(0),(by first|rfl|(simp; done)|(simp [*]; done)),H',⟨Nat.le_refl _⟩,by repeat (first|exact Drawn0.refl _|apply Drawn0.step)⟩
 case round =>
  clear H'
  try clear p2
  obtain ⟨x5_1,rfl,HA,HK1,⟨m1,rfl⟩⟩:=hrel
  cases gk with
  |zero=>exact absurd HA.out (by simp [spec_l7In.l0])
  |succ k1 =>
   have H:=HA.out
   clear HA
   simp only [spec_l7In.l0] at H
   by_cases c3:x5_1<(l0.length:Int)
   ·rw [if_pos c3] at H
    have c3b0:decide (x5_1<(l0.length:Int))=true:=decide_eq_true c3
    clear c3
    by_cases c4:0≤x5_1
    ·rw [if_pos c4] at H
     have c4b0:decide (0≤x5_1)=true:=decide_eq_true c4
     clear c4
     by_cases c5:(rdOf ByteArray.empty l0 x5_1).toList=a1.toList
     ·rw [if_pos c5] at H
      have c5b0:((rdOf ByteArray.empty l0 x5_1).toList == a1.toList)=true:=beq_iff_eq.mpr c5
      have c5b1:((rdOf ByteArray.empty l0 x5_1).toList != a1.toList)=false:=bne_eq_false_iff_eq.mpr c5
      clear c5
      obtain rfl:=Option.some.inj H
      have p132:0≤(x5_1:Int):=of_decide_eq_true (by first|(with_reducible assumption)|assumption)
      have q132:x5_1<(l0.length:Int):=of_decide_eq_true (by first|(with_reducible assumption)|assumption)
      obtain ⟨ad132,e132,hx132_0⟩:=Kd.at_string HR0.out x5_1 p132 q132
      cases e132
      replace p132:=eq_true p132
      replace q132:=eq_true q132
      go_wp2
      go_ret
      exact ⟨by first|rfl|(simp; done)|(simp [*]; done),by repeat (first|exact Drawn0.refl _|apply Drawn0.step)⟩
     ·rw [if_neg c5] at H
      have c5b0:((rdOf ByteArray.empty l0 x5_1).toList == a1.toList)=false:=beq_eq_false_iff_ne.mpr c5
      have c5b1:((rdOf ByteArray.empty l0 x5_1).toList != a1.toList)=true:=bne_iff_ne.mpr c5
      have H':=Aside0.mk H
      clear H
      have p132:0≤(x5_1:Int):=of_decide_eq_true (by first|(with_reducible assumption)|assumption)
      have q132:x5_1<(l0.length:Int):=of_decide_eq_true (by first|(with_reducible assumption)|assumption)
      obtain ⟨ad132,e132,hx132_0⟩:=Kd.at_string HR0.out x5_1 p132 q132
      cases e132
      replace p132:=eq_true p132
      replace q132:=eq_true q132
      go_wp2
      go_roundg k1
      case measure=>have:=HK1.out; omega
      case rel=>exact ⟨(wrap64 (x5_1+1)),(by first|rfl|(simp; done)|(simp [*]; done)),H',⟨by have:=HK1.out; omega⟩,by repeat (first|exact Drawn0.refl _|apply Drawn0.step)⟩
    ·rw [if_neg c4] at H
     exact absurd H (by simp)
   ·rw [if_neg c3] at H
    have c3b0:decide (x5_1<(l0.length:Int))=false:=decide_eq_false c3
    clear c3
    obtain rfl:=Option.some.inj H
    go_wp2
    go_ret
    exact ⟨by first|rfl|(simp; done)|(simp [*]; done),by repeat (first|exact Drawn0.refl _|apply Drawn0.step)⟩
mutual
def spec_l3At.l0:Nat→ByteArray→Int→Int→Int→ByteArray→List ByteArray→List (S33)→Option (Int)
 |0,_,_,_,_,_,_,_=>none
 |k+1,x1,x5,x134000,x134001,x134002,x134003,x134004=>if x5<(x134003.length:Int) then (if x5<(x134004.length:Int) then (spec_l3At.j1 k x1 x5 (x134000 == 5) x134000 x134001 x134002 x134003 x134004) else (spec_l3At.j1 k x1 x5 false x134000 x134001 x134002 x134003 x134004)) else (spec_l3At.j1 k x1 x5 false x134000 x134001 x134002 x134003 x134004)
def spec_l3At.j1:Nat→ByteArray→Int→Bool→Int→Int→ByteArray→List ByteArray→List (S33)→Option (Int)
 |0,_,_,_,_,_,_,_,_=>none
 |k+1,x1,x5,x22,x134000,x134001,x134002,x134003,x134004=>if x22=true then (if 0≤x5 then (if x5<(x134003.length:Int) then (if (rdOf ByteArray.empty x134003 x5).toList=x1.toList then (some x5) else (spec_l3At.l0 k x1 (wrap64 (x5+1)) x134000 x134001 x134002 x134003 x134004)) else (none)) else (none)) else (some (-1))
end
def spec_l3At.f (k:Nat) (a0_0:Int) (a0_1:Int) (a0_2:ByteArray) (l0_3:List ByteArray) (l0_4:List (S33)) (a1:ByteArray):Option (Int):=spec_l3At.l0 k a1 0 a0_0 a0_1 a0_2 l0_3 l0_4
theorem spec_l3At.mono_l:∀ k,(∀ y0 y1 y2 y3 y4 y5 y6,LeO (spec_l3At.l0 k y0 y1 y2 y3 y4 y5 y6) (spec_l3At.l0 (k+1) y0 y1 y2 y3 y4 y5 y6))∧(∀ y0 y1 y2 y3 y4 y5 y6 y7,LeO (spec_l3At.j1 k y0 y1 y2 y3 y4 y5 y6 y7) (spec_l3At.j1 (k+1) y0 y1 y2 y3 y4 y5 y6 y7))
 |0=>⟨fun _ _ _ _ _ _ _ r h=>by simp [spec_l3At.l0] at h,fun _ _ _ _ _ _ _ _ r h=>by simp [spec_l3At.j1] at h⟩
 |k+1=>by
  obtain ⟨ih0,ih1⟩:=spec_l3At.mono_l k
  refine ⟨?_,?_⟩
  ·intro y0 y1 y2 y3 y4 y5 y6
   unfold spec_l3At.l0
   repeat' first
   |(with_reducible exact ih0 _ _ _ _ _ _ _)
   |(with_reducible exact ih1 _ _ _ _ _ _ _ _)
   |(with_reducible exact LeO.refl _)
   |(with_reducible exact LeO.none _)
   |(with_reducible refine LeO.ite ?_ ?_)
   |(with_reducible refine LeO.bind ?_ (fun _=>?_))
   |exact ih0 _ _ _ _ _ _ _
   |exact ih1 _ _ _ _ _ _ _ _
   |exact LeO.none _
   |refine LeO.ite ?_ ?_
   |refine LeO.bind ?_ (fun _=>?_)
  ·intro y0 y1 y2 y3 y4 y5 y6 y7
   unfold spec_l3At.j1
   repeat' first
   |(with_reducible exact ih0 _ _ _ _ _ _ _)
   |(with_reducible exact ih1 _ _ _ _ _ _ _ _)
   |(with_reducible exact LeO.refl _)
   |(with_reducible exact LeO.none _)
   |(with_reducible refine LeO.ite ?_ ?_)
   |(with_reducible refine LeO.bind ?_ (fun _=>?_))
   |exact ih0 _ _ _ _ _ _ _
   |exact ih1 _ _ _ _ _ _ _ _
   |exact LeO.none _
   |refine LeO.ite ?_ ?_
   |refine LeO.bind ?_ (fun _=>?_)
theorem spec_l3At.mono:∀ a0 a1 a2 a3 a4 a5 k,LeO (spec_l3At.f k a0 a1 a2 a3 a4 a5) (spec_l3At.f (k+1) a0 a1 a2 a3 a4 a5):=by
 intro a0 a1 a2 a3 a4 a5 k
 obtain ⟨ih0,ih1⟩:=spec_l3At.mono_l k
 unfold spec_l3At.f
 repeat' first
   |(with_reducible exact ih0 _ _ _ _ _ _ _)
   |(with_reducible exact ih1 _ _ _ _ _ _ _ _)
   |(with_reducible exact LeO.refl _)
   |(with_reducible exact LeO.none _)
   |(with_reducible refine LeO.ite ?_ ?_)
   |(with_reducible refine LeO.bind ?_ (fun _=>?_))
   |exact ih0 _ _ _ _ _ _ _
   |exact ih1 _ _ _ _ _ _ _ _
   |exact LeO.none _
   |refine LeO.ite ?_ ?_
   |refine LeO.bind ?_ (fun _=>?_)
set_option maxHeartbeats 8000000 in
set_option maxRecDepth 100000 in
theorem spec_l3At.calls (k:Nat) (a0_0:Int) (a0_1:Int) (a0_2:ByteArray) (A0_3:Option Addr) (c0_3:Nat) (l0_3:List ByteArray) (A0_4:Option Addr) (c0_4:Nat) (l0_4:List (S33)) (a1:ByteArray) (r:Int) (w:World) (hr0_3:Kd.C Kd.string w A0_3 l0_3.length l0_3) (hc0_3:l0_3.length≤c0_3) (hr0_4:Kd.C k33 w A0_4 l0_4.length l0_4) (hc0_4:l0_4.length≤c0_4) (h:spec_l3At.f k a0_0 a0_1 a0_2 l0_3 l0_4 a1=some r) :
  Calls Try.prog 45 #[.agg #[.int .i64 a0_0,.int .i64 a0_1,.string a0_2,.slice A0_3 l0_3.length c0_3,.slice A0_4 l0_4.length c0_4],.string a1] w fun e w'=>e=.returned (.int .i64 r)∧Below w.heap.size w w':=by
 have hu33:=Try.underlying33
 have HR0_3:=Aside0.mk hr0_3
 have HC0_3:=Aside0.mk hc0_3
 clear hr0_3 hc0_3
 have HR0_4:=Aside0.mk hr0_4
 have HC0_4:=Aside0.mk hc0_4
 clear hr0_4 hc0_4
 have HB:=Aside0.mk (Below.refl w.heap.size w)
 have H:(spec_l3At.l0 k a1 0 a0_0 a0_1 a0_2 l0_3 l0_4)=some r:=h
 clear h
 have H':=Aside0.mk H
 clear H
 go_enter Try.func45,Try.ntmps45
 go_wp2_with (first|((with_reducible refine gate_dst (N:=2) rfl ?_); (try (refine gate_guard (by rfl) ?_; dsimp only)); refine box_event ?hg (N:=2) ?hd (cs:=#[.int .i64 a0_0,.int .i64 a0_1,.string a0_2,.slice A0_3 l0_3.length c0_3,.slice A0_4 l0_4.length c0_4]) (t:=33) ?hr ?_; (case hd=>rfl); (case hg=>rfl); (case hr=>first|(go_simp; done)|(go_simp; rfl)); intro gb133 hg w3 hbox hb; have n0_:=Aside0.mk (below_step (by repeat (first|(with_reducible first|exact HB.out|apply below_alloc|apply pw_below_drewN|apply below_drew1)|exact HB.out)) hb); have n1_:=Aside0.mk (hbox); have n2_:=Aside0.mk ((by rw [hg]; exact (below_size (by repeat (first|(with_reducible first|exact HB.out|apply below_alloc|apply pw_below_drewN|apply below_drew1)|exact HB.out))):w.heap.size≤gb133)); have n3_:=Aside0.mk ((by rw [hg]; exact (below_size (by repeat (first|(with_reducible first|exact HB.out|apply below_alloc|apply pw_below_drewN|apply below_drew1)|exact HB.out))):w.heap.size≤gb133)); clear HB; have HB:=n0_; have BK133:=n1_; have GW133:=n2_; have GE133:=n3_; clear n0_ n1_ n2_ n3_; clear hb hbox hg))
 go_loopg [5] k (fun kq v5 w'=>∃ (x5_1:Int),v5=.int .i64 x5_1∧Aside0 (spec_l3At.l0 kq a1 x5_1 a0_0 a0_1 a0_2 l0_3 l0_4=some r)∧Aside0 (kq≤k)∧Aside0 (w'.heap[gb133]?=some (.cells #[.int .i64 a0_0,.int .i64 a0_1,.string a0_2,(.slice A0_3 l0_3.length c0_3),(.slice A0_4 l0_4.length c0_4)] 33 (0,0)))∧Aside0 (Below w.heap.size w w'))
 case atStart=>exact ⟨(0),(by first|rfl|(simp; done)|(simp [*]; done)),H',⟨Nat.le_refl _⟩,⟨by (with_reducible repeat (first|refine blk_drewN ?_ _|refine blk_drew ?_|refine blk_alloc ?_ _)); exact BK133.out⟩,⟨by repeat (first|(with_reducible first|exact HB.out|apply below_alloc|apply pw_below_drewN|apply below_drew1|refine below_set ?_ GE133.out)|exact HB.out)⟩⟩
 case round =>
  clear H'
  try clear p2
  obtain ⟨x5_1,rfl,HA,HK1,BK133,HB⟩:=hrel
  cases gk with
  |zero=>exact absurd HA.out (by simp [spec_l3At.l0])
  |succ k1 =>
   have H:=HA.out
   clear HA
   simp only [spec_l3At.l0] at H
   have HC4:=Aside0.mk H
   clear H
   go_upto_region 2 with (fail)
   go_cut [22] (fun v22 wc=>∃ (kq:Nat) (x22_3:Bool),v22=.bool x22_3∧Aside0 (spec_l3At.j1 kq a1 x5_1 x22_3 a0_0 a0_1 a0_2 l0_3 l0_4=some r)∧Aside0 (kq≤k1)∧Aside0 (wc.heap[gb133]?=some (.cells #[.int .i64 a0_0,.int .i64 a0_1,.string a0_2,(.slice A0_3 l0_3.length c0_3),(.slice A0_4 l0_4.length c0_4)] 33 (0,0)))∧Aside0 (Below w.heap.size w wc))
   case first =>
    have H:=HC4.out
    clear HC4
    by_cases c5:x5_1<(l0_3.length:Int)
    ·rw [if_pos c5] at H
     have c5b0:decide (x5_1<(l0_3.length:Int))=true:=decide_eq_true c5
     clear c5
     (first|rw [c5b0]|(simp only [i64_w,i32_w]; rw [c5b0])|skip)
     by_cases c6:x5_1<(l0_4.length:Int)
     ·rw [if_pos c6] at H
      have c6b0:decide (x5_1<(l0_4.length:Int))=true:=decide_eq_true c6
      clear c6
      have H':=Aside0.mk H
      clear H
      have hcz7_0:wr.cell? ⟨gb133,0,none⟩=some (.int .i64 a0_0):=(blk_cell BK133.out 0).trans rfl
      have hcz7_1:wr.cell? ⟨gb133,1,none⟩=some (.int .i64 a0_1):=(blk_cell BK133.out 1).trans rfl
      have hcz7_2:wr.cell? ⟨gb133,2,none⟩=some (.string a0_2):=(blk_cell BK133.out 2).trans rfl
      have hcz7_3:wr.cell? ⟨gb133,3,none⟩=some (.slice A0_3 l0_3.length c0_3):=(blk_cell BK133.out 3).trans rfl
      have hcz7_4:wr.cell? ⟨gb133,4,none⟩=some (.slice A0_4 l0_4.length c0_4):=(blk_cell BK133.out 4).trans rfl
      have hfz7_0:=blk_frozen BK133.out 0
      have hfz7_1:=blk_frozen BK133.out 1
      have hfz7_2:=blk_frozen BK133.out 2
      have hfz7_3:=blk_frozen BK133.out 3
      have hfz7_4:=blk_frozen BK133.out 4
      go_wp2
      go_meet
      case rel=>exact ⟨_,((a0_0 == 5)),(by first|rfl|(simp; done)|(simp [*]; done)),H',⟨by have:=HK1.out; first|omega|exact Nat.le_refl _⟩,⟨by (with_reducible repeat (first|refine blk_drewN ?_ _|refine blk_drew ?_|refine blk_alloc ?_ _)); exact BK133.out⟩,⟨by repeat (first|(with_reducible first|exact HB.out|apply below_alloc|apply pw_below_drewN|apply below_drew1|refine below_set ?_ GE133.out)|exact HB.out)⟩⟩
     ·rw [if_neg c6] at H
      have c6b0:decide (x5_1<(l0_4.length:Int))=false:=decide_eq_false c6
      clear c6
      have H':=Aside0.mk H
      clear H
      have hcz8_0:wr.cell? ⟨gb133,0,none⟩=some (.int .i64 a0_0):=(blk_cell BK133.out 0).trans rfl
      have hcz8_1:wr.cell? ⟨gb133,1,none⟩=some (.int .i64 a0_1):=(blk_cell BK133.out 1).trans rfl
      have hcz8_2:wr.cell? ⟨gb133,2,none⟩=some (.string a0_2):=(blk_cell BK133.out 2).trans rfl
      have hcz8_3:wr.cell? ⟨gb133,3,none⟩=some (.slice A0_3 l0_3.length c0_3):=(blk_cell BK133.out 3).trans rfl
      have hcz8_4:wr.cell? ⟨gb133,4,none⟩=some (.slice A0_4 l0_4.length c0_4):=(blk_cell BK133.out 4).trans rfl
      have hfz8_0:=blk_frozen BK133.out 0
      have hfz8_1:=blk_frozen BK133.out 1
      have hfz8_2:=blk_frozen BK133.out 2
      have hfz8_3:=blk_frozen BK133.out 3
      have hfz8_4:=blk_frozen BK133.out 4
      go_wp2
      go_meet
      case rel=>exact ⟨_,(false),(by first|rfl|(simp; done)|(simp [*]; done)),H',⟨by have:=HK1.out; first|omega|exact Nat.le_refl _⟩,⟨by (with_reducible repeat (first|refine blk_drewN ?_ _|refine blk_drew ?_|refine blk_alloc ?_ _)); exact BK133.out⟩,⟨by repeat (first|(with_reducible first|exact HB.out|apply below_alloc|apply pw_below_drewN|apply below_drew1|refine below_set ?_ GE133.out)|exact HB.out)⟩⟩
    ·rw [if_neg c5] at H
     have c5b0:decide (x5_1<(l0_3.length:Int))=false:=decide_eq_false c5
     clear c5
     (first|rw [c5b0]|(simp only [i64_w,i32_w]; rw [c5b0])|skip)
     have H':=Aside0.mk H
     clear H
     have hcz9_0:wr.cell? ⟨gb133,0,none⟩=some (.int .i64 a0_0):=(blk_cell BK133.out 0).trans rfl
     have hcz9_1:wr.cell? ⟨gb133,1,none⟩=some (.int .i64 a0_1):=(blk_cell BK133.out 1).trans rfl
     have hcz9_2:wr.cell? ⟨gb133,2,none⟩=some (.string a0_2):=(blk_cell BK133.out 2).trans rfl
     have hcz9_3:wr.cell? ⟨gb133,3,none⟩=some (.slice A0_3 l0_3.length c0_3):=(blk_cell BK133.out 3).trans rfl
     have hcz9_4:wr.cell? ⟨gb133,4,none⟩=some (.slice A0_4 l0_4.length c0_4):=(blk_cell BK133.out 4).trans rfl
     have hfz9_0:=blk_frozen BK133.out 0
     have hfz9_1:=blk_frozen BK133.out 1
     have hfz9_2:=blk_frozen BK133.out 2
     have hfz9_3:=blk_frozen BK133.out 3
     have hfz9_4:=blk_frozen BK133.out 4
     go_wp2
     go_meet
     case rel=>exact ⟨_,(false),(by first|rfl|(simp; done)|(simp [*]; done)),H',⟨by have:=HK1.out; first|omega|exact Nat.le_refl _⟩,⟨by (with_reducible repeat (first|refine blk_drewN ?_ _|refine blk_drew ?_|refine blk_alloc ?_ _)); exact BK133.out⟩,⟨by repeat (first|(with_reducible first|exact HB.out|apply below_alloc|apply pw_below_drewN|apply below_drew1|refine below_set ?_ GE133.out)|exact HB.out)⟩⟩
   case rest =>
    clear HC4
    try clear p2
    try clear c4
    try clear c5
    try clear c5b0
    try clear c6
    try clear c6b0
    try clear hcz7_0
    try clear hcz7_1
    try clear hcz7_2
    try clear hcz7_3
    try clear hcz7_4
    try clear hcz8_0
    try clear hcz8_1
    try clear hcz8_2
    try clear hcz8_3
    try clear hcz8_4
    try clear hcz9_0
    try clear hcz9_1
    try clear hcz9_2
    try clear hcz9_3
    try clear hcz9_4
    try clear hfz7_0
    try clear hfz7_1
    try clear hfz7_2
    try clear hfz7_3
    try clear hfz7_4
    try clear hfz8_0
    try clear hfz8_1
    try clear hfz8_2
    try clear hfz8_3
    try clear hfz8_4
    try clear hfz9_0
    try clear hfz9_1
    try clear hfz9_2
    try clear hfz9_3
    try clear hfz9_4
    try clear p2
    obtain ⟨kq,x22_3,rfl,HA,HJ3,BK133,HB⟩:=hcut
    cases kq with
    |zero=>exact absurd HA.out (by simp [spec_l3At.j1])
    |succ kj3 =>
     have H:=HA.out
     clear HA
     simp only [spec_l3At.j1] at H
     by_cases c10:x22_3=true
     ·subst c10
      have H1:(if 0≤x5_1 then (if x5_1<(l0_3.length:Int) then (if (rdOf ByteArray.empty l0_3 x5_1).toList=a1.toList then (some x5_1) else (spec_l3At.l0 kj3 a1 (wrap64 (x5_1+1)) a0_0 a0_1 a0_2 l0_3 l0_4)) else (none)) else (none))=some r:=by rw [if_pos rfl] at H; exact H
      clear H
      have H:=H1
      clear H1
      by_cases c11:0≤x5_1
      ·rw [if_pos c11] at H
       have c11b0:decide (0≤x5_1)=true:=decide_eq_true c11
       clear c11
       by_cases c12:x5_1<(l0_3.length:Int)
       ·rw [if_pos c12] at H
        have c12b0:decide (x5_1<(l0_3.length:Int))=true:=decide_eq_true c12
        clear c12
        by_cases c13:(rdOf ByteArray.empty l0_3 x5_1).toList=a1.toList
        ·rw [if_pos c13] at H
         have c13b0:((rdOf ByteArray.empty l0_3 x5_1).toList == a1.toList)=true:=beq_iff_eq.mpr c13
         have c13b1:((rdOf ByteArray.empty l0_3 x5_1).toList != a1.toList)=false:=bne_eq_false_iff_eq.mpr c13
         clear c13
         obtain rfl:=Option.some.inj H
         have hcz14_0:wc.cell? ⟨gb133,0,none⟩=some (.int .i64 a0_0):=(blk_cell BK133.out 0).trans rfl
         have hcz14_1:wc.cell? ⟨gb133,1,none⟩=some (.int .i64 a0_1):=(blk_cell BK133.out 1).trans rfl
         have hcz14_2:wc.cell? ⟨gb133,2,none⟩=some (.string a0_2):=(blk_cell BK133.out 2).trans rfl
         have hcz14_3:wc.cell? ⟨gb133,3,none⟩=some (.slice A0_3 l0_3.length c0_3):=(blk_cell BK133.out 3).trans rfl
         have hcz14_4:wc.cell? ⟨gb133,4,none⟩=some (.slice A0_4 l0_4.length c0_4):=(blk_cell BK133.out 4).trans rfl
         have hfz14_0:=blk_frozen BK133.out 0
         have hfz14_1:=blk_frozen BK133.out 1
         have hfz14_2:=blk_frozen BK133.out 2
         have hfz14_3:=blk_frozen BK133.out 3
         have hfz14_4:=blk_frozen BK133.out 4
         have p134:0≤(x5_1:Int):=of_decide_eq_true (by first|(with_reducible assumption)|assumption)
         have q134:x5_1<(l0_3.length:Int):=of_decide_eq_true (by first|(with_reducible assumption)|assumption)
         obtain ⟨ad134,e134,hx134_0⟩:=Kd.at_string HR0_3.out x5_1 p134 q134
         cases e134
         replace hx134_0:=(HB.out.cell (World.block_lt_of_cell? w _ hx134_0)).trans hx134_0
         replace p134:=eq_true p134
         replace q134:=eq_true q134
         go_wp2
         go_ret
         exact ⟨by first|rfl|(simp [errW_none,errW_some]<;>rfl)|(simp [*,errW_none,errW_some]<;>rfl),by repeat (first|(with_reducible first|exact HB.out|apply below_alloc|apply pw_below_drewN|apply below_drew1|refine below_set ?_ GE133.out)|exact HB.out)⟩
        ·rw [if_neg c13] at H
         have c13b0:((rdOf ByteArray.empty l0_3 x5_1).toList == a1.toList)=false:=beq_eq_false_iff_ne.mpr c13
         have c13b1:((rdOf ByteArray.empty l0_3 x5_1).toList != a1.toList)=true:=bne_iff_ne.mpr c13
         have H':=Aside0.mk H
         clear H
         have hcz15_0:wc.cell? ⟨gb133,0,none⟩=some (.int .i64 a0_0):=(blk_cell BK133.out 0).trans rfl
         have hcz15_1:wc.cell? ⟨gb133,1,none⟩=some (.int .i64 a0_1):=(blk_cell BK133.out 1).trans rfl
         have hcz15_2:wc.cell? ⟨gb133,2,none⟩=some (.string a0_2):=(blk_cell BK133.out 2).trans rfl
         have hcz15_3:wc.cell? ⟨gb133,3,none⟩=some (.slice A0_3 l0_3.length c0_3):=(blk_cell BK133.out 3).trans rfl
         have hcz15_4:wc.cell? ⟨gb133,4,none⟩=some (.slice A0_4 l0_4.length c0_4):=(blk_cell BK133.out 4).trans rfl
         have hfz15_0:=blk_frozen BK133.out 0
         have hfz15_1:=blk_frozen BK133.out 1
         have hfz15_2:=blk_frozen BK133.out 2
         have hfz15_3:=blk_frozen BK133.out 3
         have hfz15_4:=blk_frozen BK133.out 4
         have p134:0≤(x5_1:Int):=of_decide_eq_true (by first|(with_reducible assumption)|assumption)
         have q134:x5_1<(l0_3.length:Int):=of_decide_eq_true (by first|(with_reducible assumption)|assumption)
         obtain ⟨ad134,e134,hx134_0⟩:=Kd.at_string HR0_3.out x5_1 p134 q134
         cases e134
         replace hx134_0:=(HB.out.cell (World.block_lt_of_cell? w _ hx134_0)).trans hx134_0
         replace p134:=eq_true p134
         replace q134:=eq_true q134
         go_wp2
         go_roundg kj3
         case measure=>have:=HK1.out; have:=HJ3.out; omega
         case rel=>exact ⟨(wrap64 (x5_1+1)),(by first|rfl|(simp; done)|(simp [*]; done)),H',⟨by have:=HK1.out; have:=HJ3.out; omega⟩,⟨by (with_reducible repeat (first|refine blk_drewN ?_ _|refine blk_drew ?_|refine blk_alloc ?_ _)); exact BK133.out⟩,⟨by repeat (first|(with_reducible first|exact HB.out|apply below_alloc|apply pw_below_drewN|apply below_drew1|refine below_set ?_ GE133.out)|exact HB.out)⟩⟩
       ·rw [if_neg c12] at H
        exact absurd H (by simp)
      ·rw [if_neg c11] at H
       exact absurd H (by simp)
     ·replace c10:=Bool.eq_false_iff.mpr c10
      subst c10
      have H1:(some (-1))=some r:=by rw [if_neg (show ¬ (false=true) by decide)] at H; exact H
      clear H
      have H:=H1
      clear H1
      obtain rfl:=Option.some.inj H
      go_wp2
      go_ret
      exact ⟨by first|rfl|(simp [errW_none,errW_some]<;>rfl)|(simp [*,errW_none,errW_some]<;>rfl),by repeat (first|(with_reducible first|exact HB.out|apply below_alloc|apply pw_below_drewN|apply below_drew1|refine below_set ?_ GE133.out)|exact HB.out)⟩
mutual
def spec_l7Fit.j0:Nat→List ByteArray→List ByteArray→Bool→Int→Int→ByteArray→List ByteArray→List (S33)→Option (ByteArray)
 |0,_,_,_,_,_,_,_,_=>none
 |k+1,x1,x2,x16,x136000,x136001,x136002,x136003,x136004=>if x16=true then (some (⟨#[46]⟩:ByteArray)) else (spec_l7Fit.l0 k x1 x2 0 x136000 x136001 x136002 x136003 x136004)
def spec_l7Fit.l0:Nat→List ByteArray→List ByteArray→Int→Int→Int→ByteArray→List ByteArray→List (S33)→Option (ByteArray)
 |0,_,_,_,_,_,_,_,_=>none
 |k+1,x1,x2,x7,x136000,x136001,x136002,x136003,x136004=>if x7<(x136003.length:Int) then (if 0≤x7 then ((spec_l7In.f k x1 (rdOf ByteArray.empty x136003 x7)).bind fun t138=>(if t138=true then (spec_l7Fit.l0 k x1 x2 (wrap64 (x7+1)) x136000 x136001 x136002 x136003 x136004) else (some (rdOf ByteArray.empty x136003 x7)))) else (none)) else (spec_l7Fit.l1 k x2 0 x136000 x136001 x136002 x136003 x136004)
def spec_l7Fit.l1:Nat→List ByteArray→Int→Int→Int→ByteArray→List ByteArray→List (S33)→Option (ByteArray)
 |0,_,_,_,_,_,_,_=>none
 |k+1,x2,x8,x136000,x136001,x136002,x136003,x136004=>if x8<(x2.length:Int) then (if 0≤x8 then ((spec_l3At.f k x136000 x136001 x136002 x136003 x136004 (rdOf ByteArray.empty x2 x8)).bind fun t141=>(if t141<0 then (some (rdOf ByteArray.empty x2 x8)) else (spec_l7Fit.l1 k x2 (wrap64 (x8+1)) x136000 x136001 x136002 x136003 x136004))) else (none)) else (some (⟨#[]⟩:ByteArray))
end
def spec_l7Fit.f (k:Nat) (a0_0:Int) (a0_1:Int) (a0_2:ByteArray) (l0_3:List ByteArray) (l0_4:List (S33)) (l1:List ByteArray) (l2:List ByteArray):Option (ByteArray):=if a0_0=5 then ((spec_TreeOk.f k a0_0 a0_1 a0_2 l0_3 l0_4).bind fun t136=>(spec_l7Fit.j0 k l1 l2 (!t136) a0_0 a0_1 a0_2 l0_3 l0_4)) else (spec_l7Fit.j0 k l1 l2 true a0_0 a0_1 a0_2 l0_3 l0_4)
theorem spec_l7Fit.mono_l:∀ k,(∀ y0 y1 y2 y3 y4 y5 y6 y7,LeO (spec_l7Fit.j0 k y0 y1 y2 y3 y4 y5 y6 y7) (spec_l7Fit.j0 (k+1) y0 y1 y2 y3 y4 y5 y6 y7))∧(∀ y0 y1 y2 y3 y4 y5 y6 y7,LeO (spec_l7Fit.l0 k y0 y1 y2 y3 y4 y5 y6 y7) (spec_l7Fit.l0 (k+1) y0 y1 y2 y3 y4 y5 y6 y7))∧(∀ y0 y1 y2 y3 y4 y5 y6,LeO (spec_l7Fit.l1 k y0 y1 y2 y3 y4 y5 y6) (spec_l7Fit.l1 (k+1) y0 y1 y2 y3 y4 y5 y6))
 |0=>⟨fun _ _ _ _ _ _ _ _ r h=>by simp [spec_l7Fit.j0] at h,fun _ _ _ _ _ _ _ _ r h=>by simp [spec_l7Fit.l0] at h,fun _ _ _ _ _ _ _ r h=>by simp [spec_l7Fit.l1] at h⟩
 |k+1=>by
  obtain ⟨ih0,ih1,ih2⟩:=spec_l7Fit.mono_l k
  refine ⟨?_,?_,?_⟩
  ·intro y0 y1 y2 y3 y4 y5 y6 y7
   unfold spec_l7Fit.j0
   repeat' first
   |(with_reducible exact ih0 _ _ _ _ _ _ _ _)
   |(with_reducible exact ih1 _ _ _ _ _ _ _ _)
   |(with_reducible exact ih2 _ _ _ _ _ _ _)
   |(with_reducible exact spec_TreeOk.mono _ _ _ _ _ _)
   |(with_reducible exact spec_l3At.mono _ _ _ _ _ _ _)
   |(with_reducible exact spec_l7In.mono _ _ _)
   |(with_reducible exact LeO.refl _)
   |(with_reducible exact LeO.none _)
   |(with_reducible refine LeO.ite ?_ ?_)
   |(with_reducible refine LeO.bind ?_ (fun _=>?_))
   |exact ih0 _ _ _ _ _ _ _ _
   |exact ih1 _ _ _ _ _ _ _ _
   |exact ih2 _ _ _ _ _ _ _
   |exact spec_TreeOk.mono _ _ _ _ _ _
   |exact spec_l3At.mono _ _ _ _ _ _ _
   |exact spec_l7In.mono _ _ _
   |exact LeO.none _
   |refine LeO.ite ?_ ?_
   |refine LeO.bind ?_ (fun _=>?_)
  ·intro y0 y1 y2 y3 y4 y5 y6 y7
   unfold spec_l7Fit.l0
   repeat' first
   |(with_reducible exact ih0 _ _ _ _ _ _ _ _)
   |(with_reducible exact ih1 _ _ _ _ _ _ _ _)
   |(with_reducible exact ih2 _ _ _ _ _ _ _)
   |(with_reducible exact spec_TreeOk.mono _ _ _ _ _ _)
   |(with_reducible exact spec_l3At.mono _ _ _ _ _ _ _)
   |(with_reducible exact spec_l7In.mono _ _ _)
   |(with_reducible exact LeO.refl _)
   |(with_reducible exact LeO.none _)
   |(with_reducible refine LeO.ite ?_ ?_)
   |(with_reducible refine LeO.bind ?_ (fun _=>?_))
   |exact ih0 _ _ _ _ _ _ _ _
   |exact ih1 _ _ _ _ _ _ _ _
   |exact ih2 _ _ _ _ _ _ _
   |exact spec_TreeOk.mono _ _ _ _ _ _
   |exact spec_l3At.mono _ _ _ _ _ _ _
   |exact spec_l7In.mono _ _ _
   |exact LeO.none _
   |refine LeO.ite ?_ ?_
   |refine LeO.bind ?_ (fun _=>?_)
  ·intro y0 y1 y2 y3 y4 y5 y6
   unfold spec_l7Fit.l1
   repeat' first
   |(with_reducible exact ih0 _ _ _ _ _ _ _ _)
   |(with_reducible exact ih1 _ _ _ _ _ _ _ _)
   |(with_reducible exact ih2 _ _ _ _ _ _ _)
   |(with_reducible exact spec_TreeOk.mono _ _ _ _ _ _)
   |(with_reducible exact spec_l3At.mono _ _ _ _ _ _ _)
   |(with_reducible exact spec_l7In.mono _ _ _)
   |(with_reducible exact LeO.refl _)
   |(with_reducible exact LeO.none _)
   |(with_reducible refine LeO.ite ?_ ?_)
   |(with_reducible refine LeO.bind ?_ (fun _=>?_))
   |exact ih0 _ _ _ _ _ _ _ _
   |exact ih1 _ _ _ _ _ _ _ _
   |exact ih2 _ _ _ _ _ _ _
   |exact spec_TreeOk.mono _ _ _ _ _ _
   |exact spec_l3At.mono _ _ _ _ _ _ _
   |exact spec_l7In.mono _ _ _
   |exact LeO.none _
   |refine LeO.ite ?_ ?_
   |refine LeO.bind ?_ (fun _=>?_)
theorem spec_l7Fit.mono:∀ a0 a1 a2 a3 a4 a5 a6 k,LeO (spec_l7Fit.f k a0 a1 a2 a3 a4 a5 a6) (spec_l7Fit.f (k+1) a0 a1 a2 a3 a4 a5 a6):=by
 intro a0 a1 a2 a3 a4 a5 a6 k
 obtain ⟨ih0,ih1,ih2⟩:=spec_l7Fit.mono_l k
 unfold spec_l7Fit.f
 repeat' first
   |(with_reducible exact ih0 _ _ _ _ _ _ _ _)
   |(with_reducible exact ih1 _ _ _ _ _ _ _ _)
   |(with_reducible exact ih2 _ _ _ _ _ _ _)
   |(with_reducible exact spec_TreeOk.mono _ _ _ _ _ _)
   |(with_reducible exact spec_l3At.mono _ _ _ _ _ _ _)
   |(with_reducible exact spec_l7In.mono _ _ _)
   |(with_reducible exact LeO.refl _)
   |(with_reducible exact LeO.none _)
   |(with_reducible refine LeO.ite ?_ ?_)
   |(with_reducible refine LeO.bind ?_ (fun _=>?_))
   |exact ih0 _ _ _ _ _ _ _ _
   |exact ih1 _ _ _ _ _ _ _ _
   |exact ih2 _ _ _ _ _ _ _
   |exact spec_TreeOk.mono _ _ _ _ _ _
   |exact spec_l3At.mono _ _ _ _ _ _ _
   |exact spec_l7In.mono _ _ _
   |exact LeO.none _
   |refine LeO.ite ?_ ?_
   |refine LeO.bind ?_ (fun _=>?_)
set_option maxHeartbeats 8000000 in
set_option maxRecDepth 100000 in
theorem spec_l7Fit.calls (k:Nat) (a0_0:Int) (a0_1:Int) (a0_2:ByteArray) (A0_3:Option Addr) (c0_3:Nat) (l0_3:List ByteArray) (A0_4:Option Addr) (c0_4:Nat) (l0_4:List (S33)) (A1:Option Addr) (c1:Nat) (l1:List ByteArray) (A2:Option Addr) (c2:Nat) (l2:List ByteArray) (r:ByteArray) (w:World) (hr0_3:Kd.C Kd.string w A0_3 l0_3.length l0_3) (hc0_3:l0_3.length≤c0_3) (hr0_4:Kd.C k33 w A0_4 l0_4.length l0_4) (hc0_4:l0_4.length≤c0_4) (hr1:Kd.C Kd.string w A1 l1.length l1) (hc1:l1.length≤c1) (hr2:Kd.C Kd.string w A2 l2.length l2) (hc2:l2.length≤c2) (h:spec_l7Fit.f k a0_0 a0_1 a0_2 l0_3 l0_4 l1 l2=some r) :
  Calls Try.prog 19 #[.agg #[.int .i64 a0_0,.int .i64 a0_1,.string a0_2,.slice A0_3 l0_3.length c0_3,.slice A0_4 l0_4.length c0_4],.slice A1 l1.length c1,.slice A2 l2.length c2] w fun e w'=>e=.returned (.string r)∧Below w.heap.size w w':=by
 have hu33:=Try.underlying33
 have HR0_3:=Aside0.mk hr0_3
 have HC0_3:=Aside0.mk hc0_3
 clear hr0_3 hc0_3
 have HR0_4:=Aside0.mk hr0_4
 have HC0_4:=Aside0.mk hc0_4
 clear hr0_4 hc0_4
 have HR1:=Aside0.mk hr1
 have HC1:=Aside0.mk hc1
 clear hr1 hc1
 have HR2:=Aside0.mk hr2
 have HC2:=Aside0.mk hc2
 clear hr2 hc2
 have HB:=Aside0.mk (Below.refl w.heap.size w)
 have H:(if a0_0=5 then ((spec_TreeOk.f k a0_0 a0_1 a0_2 l0_3 l0_4).bind fun t136=>(spec_l7Fit.j0 k l1 l2 (!t136) a0_0 a0_1 a0_2 l0_3 l0_4)) else (spec_l7Fit.j0 k l1 l2 true a0_0 a0_1 a0_2 l0_3 l0_4))=some r:=h
 clear h
 have HC4:=Aside0.mk H
 clear H
 go_enter Try.func19,Try.ntmps19
 go_upto_region 1 with (first|((with_reducible refine gate_dst (N:=3) rfl ?_); refine box_event ?hg (N:=3) ?hd (cs:=#[.int .i64 a0_0,.int .i64 a0_1,.string a0_2,.slice A0_3 l0_3.length c0_3,.slice A0_4 l0_4.length c0_4]) (t:=33) ?hr ?_; (case hd=>rfl); (case hg=>rfl); (case hr=>first|(go_simp; done)|(go_simp; rfl)); intro gb135 hg w5 hbox hb; have n0_:=Aside0.mk (below_step (by repeat (first|(with_reducible first|exact HB.out|apply below_alloc|apply pw_below_drewN|apply below_drew1)|exact HB.out)) hb); have n1_:=Aside0.mk (hbox); have n2_:=Aside0.mk ((by rw [hg]; exact (below_size (by repeat (first|(with_reducible first|exact HB.out|apply below_alloc|apply pw_below_drewN|apply below_drew1)|exact HB.out))):w.heap.size≤gb135)); have n3_:=Aside0.mk ((by rw [hg]; exact (below_size (by repeat (first|(with_reducible first|exact HB.out|apply below_alloc|apply pw_below_drewN|apply below_drew1)|exact HB.out))):w.heap.size≤gb135)); clear HB; have HB:=n0_; have BK135:=n1_; have GW135:=n2_; have GE135:=n3_; clear n0_ n1_ n2_ n3_; clear hb hbox hg))
 (try simp only [Act.put,List.setIfInBounds_toArray,List.set_cons_zero,List.set_cons_succ])
 go_cut [16] (fun v16 wc=>∃ (kq:Nat) (x16_3:Bool),v16=.bool x16_3∧Aside0 (spec_l7Fit.j0 kq l1 l2 x16_3 a0_0 a0_1 a0_2 l0_3 l0_4=some r)∧Aside0 (kq≤k)∧Aside0 (wc.heap[gb135]?=some (.cells #[.int .i64 a0_0,.int .i64 a0_1,.string a0_2,(.slice A0_3 l0_3.length c0_3),(.slice A0_4 l0_4.length c0_4)] 33 (0,0)))∧Aside0 (Below w.heap.size w wc))
 case first =>
  have H:=HC4.out
  clear HC4
  by_cases c6:a0_0=5
  ·rw [if_pos c6] at H
   have c6b0:(a0_0 == 5)=true:=beq_iff_eq.mpr c6
   have c6b1:(a0_0 != 5)=false:=bne_eq_false_iff_eq.mpr c6
   clear c6
   (first|rw [c6b0]|rw [c6b1]|(simp only [i64_w,i32_w]; rw [c6b0])|skip)
   replace H:=Option.bind_eq_some_iff.mp H
   obtain ⟨t136,A70,H⟩:=H
   replace H:(spec_l7Fit.j0 k l1 l2 (!t136) a0_0 a0_1 a0_2 l0_3 l0_4)=some r:=H
   have A7:=Aside0.mk A70
   clear A70
   have H':=Aside0.mk H
   clear H
   have hcz8_0:w5.cell? ⟨gb135,0,none⟩=some (.int .i64 a0_0):=(blk_cell BK135.out 0).trans rfl
   have hcz8_1:w5.cell? ⟨gb135,1,none⟩=some (.int .i64 a0_1):=(blk_cell BK135.out 1).trans rfl
   have hcz8_2:w5.cell? ⟨gb135,2,none⟩=some (.string a0_2):=(blk_cell BK135.out 2).trans rfl
   have hcz8_3:w5.cell? ⟨gb135,3,none⟩=some (.slice A0_3 l0_3.length c0_3):=(blk_cell BK135.out 3).trans rfl
   have hcz8_4:w5.cell? ⟨gb135,4,none⟩=some (.slice A0_4 l0_4.length c0_4):=(blk_cell BK135.out 4).trans rfl
   have hfz8_0:=blk_frozen BK135.out 0
   have hfz8_1:=blk_frozen BK135.out 1
   have hfz8_2:=blk_frozen BK135.out 2
   have hfz8_3:=blk_frozen BK135.out 3
   have hfz8_4:=blk_frozen BK135.out 4
   go_wp2_with (first|(go_at_call 35; (with_reducible refine (spec_TreeOk.calls k a0_0 a0_1 a0_2 _ _ l0_3 _ _ l0_4 t136 _ ?side1 ?side2 ?side3 ?side4 A7.out).mono ?_); (case side1=>repeat (first|exact (Kd.C_below HR0_3.out HB.out)|(with_reducible refine Kd.C_alloc ?_ _)|(with_reducible refine Kd.C_drewN ?_ _)|(with_reducible refine Kd.C_drew ?_))); (case side2=>exact HC0_3.out); (case side3=>repeat (first|exact (Kd.C_below HR0_4.out HB.out)|(with_reducible refine Kd.C_alloc ?_ _)|(with_reducible refine Kd.C_drewN ?_ _)|(with_reducible refine Kd.C_drew ?_))); (case side4=>exact HC0_4.out); rintro e w9 ⟨rfl,hb⟩; have n0_:=Aside0.mk (blk_below (g:=gb135) (o:=.cells #[.int .i64 a0_0,.int .i64 a0_1,.string a0_2,.slice A0_3 l0_3.length c0_3,.slice A0_4 l0_4.length c0_4] 33 (0,0)) (by (with_reducible repeat (first|refine blk_drewN ?_ _|refine blk_drew ?_|refine blk_alloc ?_ _)); exact BK135.out) hb); have n1_:=Aside0.mk (below_step (by repeat (first|(with_reducible first|exact HB.out|apply below_alloc|apply pw_below_drewN|apply below_drew1|refine below_set ?_ GE135.out)|exact HB.out)) hb); clear BK135; clear HB; have BK135:=n0_; have HB:=n1_; clear n0_ n1_; (try clear hb); (try clear hb2); (try clear hk); (try clear hi)))
   go_meet
   case rel=>exact ⟨_,(!t136),(by first|rfl|(simp; done)|(simp [*]; done)),H',⟨by first|omega|exact Nat.le_refl _⟩,⟨by (with_reducible repeat (first|refine blk_drewN ?_ _|refine blk_drew ?_|refine blk_alloc ?_ _)); exact BK135.out⟩,⟨by repeat (first|(with_reducible first|exact HB.out|apply below_alloc|apply pw_below_drewN|apply below_drew1|refine below_set ?_ GE135.out)|exact HB.out)⟩⟩
  ·rw [if_neg c6] at H
   have c6b0:(a0_0 == 5)=false:=beq_eq_false_iff_ne.mpr c6
   have c6b1:(a0_0 != 5)=true:=bne_iff_ne.mpr c6
   (first|rw [c6b0]|rw [c6b1]|(simp only [i64_w,i32_w]; rw [c6b0])|skip)
   have H':=Aside0.mk H
   clear H
   have hcz10_0:w5.cell? ⟨gb135,0,none⟩=some (.int .i64 a0_0):=(blk_cell BK135.out 0).trans rfl
   have hcz10_1:w5.cell? ⟨gb135,1,none⟩=some (.int .i64 a0_1):=(blk_cell BK135.out 1).trans rfl
   have hcz10_2:w5.cell? ⟨gb135,2,none⟩=some (.string a0_2):=(blk_cell BK135.out 2).trans rfl
   have hcz10_3:w5.cell? ⟨gb135,3,none⟩=some (.slice A0_3 l0_3.length c0_3):=(blk_cell BK135.out 3).trans rfl
   have hcz10_4:w5.cell? ⟨gb135,4,none⟩=some (.slice A0_4 l0_4.length c0_4):=(blk_cell BK135.out 4).trans rfl
   have hfz10_0:=blk_frozen BK135.out 0
   have hfz10_1:=blk_frozen BK135.out 1
   have hfz10_2:=blk_frozen BK135.out 2
   have hfz10_3:=blk_frozen BK135.out 3
   have hfz10_4:=blk_frozen BK135.out 4
   go_wp2
   go_meet
   case rel=>exact ⟨_,(true),(by first|rfl|(simp; done)|(simp [*]; done)),H',⟨by first|omega|exact Nat.le_refl _⟩,⟨by (with_reducible repeat (first|refine blk_drewN ?_ _|refine blk_drew ?_|refine blk_alloc ?_ _)); exact BK135.out⟩,⟨by repeat (first|(with_reducible first|exact HB.out|apply below_alloc|apply pw_below_drewN|apply below_drew1|refine below_set ?_ GE135.out)|exact HB.out)⟩⟩
 case rest =>
  clear HC4
  try clear c1
  try clear c2
  try clear p2
  try clear c6
  try clear c6b0
  try clear c6b1
  try clear hcz10_0
  try clear hcz10_1
  try clear hcz10_2
  try clear hcz10_3
  try clear hcz10_4
  try clear hcz8_0
  try clear hcz8_1
  try clear hcz8_2
  try clear hcz8_3
  try clear hcz8_4
  try clear hfz10_0
  try clear hfz10_1
  try clear hfz10_2
  try clear hfz10_3
  try clear hfz10_4
  try clear hfz8_0
  try clear hfz8_1
  try clear hfz8_2
  try clear hfz8_3
  try clear hfz8_4
  obtain ⟨kq,x16_3,rfl,HA,HJ3,BK135,HB⟩:=hcut
  cases kq with
  |zero=>exact absurd HA.out (by simp [spec_l7Fit.j0])
  |succ kj3 =>
   have H:=HA.out
   clear HA
   simp only [spec_l7Fit.j0] at H
   by_cases c11:x16_3=true
   ·subst c11
    have H1:(some (⟨#[46]⟩:ByteArray))=some r:=by rw [if_pos rfl] at H; exact H
    clear H
    have H:=H1
    clear H1
    obtain rfl:=Option.some.inj H
    go_wp2
    go_ret
    exact ⟨by first|rfl|(simp [errW_none,errW_some]<;>rfl)|(simp [*,errW_none,errW_some]<;>rfl),by repeat (first|(with_reducible first|exact HB.out|apply below_alloc|apply pw_below_drewN|apply below_drew1|refine below_set ?_ GE135.out)|exact HB.out)⟩
   ·replace c11:=Bool.eq_false_iff.mpr c11
    subst c11
    have H1:(spec_l7Fit.l0 kj3 l1 l2 0 a0_0 a0_1 a0_2 l0_3 l0_4)=some r:=by rw [if_neg (show ¬ (false=true) by decide)] at H; exact H
    clear H
    have H:=H1
    clear H1
    have H':=Aside0.mk H
    clear H
    go_wp2
    go_loopg [7] kj3 (fun kq v7 w'=>∃ (x7_2:Int),v7=.int .i64 x7_2∧Aside0 (spec_l7Fit.l0 kq l1 l2 x7_2 a0_0 a0_1 a0_2 l0_3 l0_4=some r)∧Aside0 (kq≤kj3)∧Aside0 (w'.heap[gb135]?=some (.cells #[.int .i64 a0_0,.int .i64 a0_1,.string a0_2,(.slice A0_3 l0_3.length c0_3),(.slice A0_4 l0_4.length c0_4)] 33 (0,0)))∧Aside0 (Below w.heap.size w w'))
    case atStart=>exact ⟨(0),(by first|rfl|(simp; done)|(simp [*]; done)),H',⟨Nat.le_refl _⟩,⟨by (with_reducible repeat (first|refine blk_drewN ?_ _|refine blk_drew ?_|refine blk_alloc ?_ _)); exact BK135.out⟩,⟨by repeat (first|(with_reducible first|exact HB.out|apply below_alloc|apply pw_below_drewN|apply below_drew1|refine below_set ?_ GE135.out)|exact HB.out)⟩⟩
    case round =>
     clear H'
     try clear c1
     try clear c2
     try clear p2
     try clear c6
     try clear c6b0
     try clear c6b1
     try clear c11
     try clear hcz10_0
     try clear hcz10_1
     try clear hcz10_2
     try clear hcz10_3
     try clear hcz10_4
     try clear hcz8_0
     try clear hcz8_1
     try clear hcz8_2
     try clear hcz8_3
     try clear hcz8_4
     try clear hfz10_0
     try clear hfz10_1
     try clear hfz10_2
     try clear hfz10_3
     try clear hfz10_4
     try clear hfz8_0
     try clear hfz8_1
     try clear hfz8_2
     try clear hfz8_3
     try clear hfz8_4
     try clear p2
     obtain ⟨x7_2,rfl,HA,HK2,BK135,HB⟩:=hrel
     cases gk with
     |zero=>exact absurd HA.out (by simp [spec_l7Fit.l0])
     |succ k2 =>
      have H:=HA.out
      clear HA
      simp only [spec_l7Fit.l0] at H
      by_cases c12:x7_2<(l0_3.length:Int)
      ·rw [if_pos c12] at H
       have c12b0:decide (x7_2<(l0_3.length:Int))=true:=decide_eq_true c12
       clear c12
       by_cases c13:0≤x7_2
       ·rw [if_pos c13] at H
        have c13b0:decide (0≤x7_2)=true:=decide_eq_true c13
        clear c13
        replace H:=Option.bind_eq_some_iff.mp H
        obtain ⟨t138,A140,H⟩:=H
        replace H:(if t138=true then (spec_l7Fit.l0 k2 l1 l2 (wrap64 (x7_2+1)) a0_0 a0_1 a0_2 l0_3 l0_4) else (some (rdOf ByteArray.empty l0_3 x7_2)))=some r:=H
        have A14:=Aside0.mk A140
        clear A140
        have HC15:=Aside0.mk H
        clear H
        have hcz16_0:wr.cell? ⟨gb135,0,none⟩=some (.int .i64 a0_0):=(blk_cell BK135.out 0).trans rfl
        have hcz16_1:wr.cell? ⟨gb135,1,none⟩=some (.int .i64 a0_1):=(blk_cell BK135.out 1).trans rfl
        have hcz16_2:wr.cell? ⟨gb135,2,none⟩=some (.string a0_2):=(blk_cell BK135.out 2).trans rfl
        have hcz16_3:wr.cell? ⟨gb135,3,none⟩=some (.slice A0_3 l0_3.length c0_3):=(blk_cell BK135.out 3).trans rfl
        have hcz16_4:wr.cell? ⟨gb135,4,none⟩=some (.slice A0_4 l0_4.length c0_4):=(blk_cell BK135.out 4).trans rfl
        have hfz16_0:=blk_frozen BK135.out 0
        have hfz16_1:=blk_frozen BK135.out 1
        have hfz16_2:=blk_frozen BK135.out 2
        have hfz16_3:=blk_frozen BK135.out 3
        have hfz16_4:=blk_frozen BK135.out 4
        have p137:0≤(x7_2:Int):=of_decide_eq_true (by first|(with_reducible assumption)|assumption)
        have q137:x7_2<(l0_3.length:Int):=of_decide_eq_true (by first|(with_reducible assumption)|assumption)
        obtain ⟨ad137,e137,hx137_0⟩:=Kd.at_string HR0_3.out x7_2 p137 q137
        cases e137
        replace hx137_0:=(HB.out.cell (World.block_lt_of_cell? w _ hx137_0)).trans hx137_0
        replace p137:=eq_true p137
        replace q137:=eq_true q137
        go_upto_if 31 with (first|((with_reducible refine gate_callee (f:=44) rfl ?_); refine goesL_ (some 30) rfl rfl Try.func44 (by kernel_rfl) rfl #[.slice A1 l1.length c1,.string (rdOf ByteArray.empty l0_3 x7_2)] rfl (by (try simp only [List.map_toArray,List.map_cons,List.map_nil]); first|done|rfl|(simp only [List.length_drop,List.length_take]; rfl)) ?_; (with_reducible refine (spec_l7In.calls k2 _ _ l1 (rdOf ByteArray.empty l0_3 x7_2) t138 _ ?side1 ?side2 A14.out).mono ?_); (case side1=>repeat (first|exact (Kd.C_below HR1.out HB.out)|(with_reducible refine Kd.C_alloc ?_ _)|(with_reducible refine Kd.C_drewN ?_ _)|(with_reducible refine Kd.C_drew ?_))); (case side2=>exact HC1.out); rintro e w' ⟨rfl,⟨nd,rfl⟩⟩; refine ⟨_,rfl,?_⟩))
        (try simp only [Act.put,List.setIfInBounds_toArray,List.set_cons_zero,List.set_cons_succ])
        try clear hx137_0
        have H:=HC15.out
        clear HC15
        by_cases c17:t138=true
        ·subst c17
         have H1:(spec_l7Fit.l0 k2 l1 l2 (wrap64 (x7_2+1)) a0_0 a0_1 a0_2 l0_3 l0_4)=some r:=by rw [if_pos rfl] at H; exact H
         clear H
         have H:=H1
         clear H1
         have H':=Aside0.mk H
         clear H
         go_wp2
         go_roundg k2
         case measure=>have:=HJ3.out; have:=HK2.out; omega
         case rel=>exact ⟨(wrap64 (x7_2+1)),(by first|rfl|(simp; done)|(simp [*]; done)),H',⟨by have:=HJ3.out; have:=HK2.out; omega⟩,⟨by (with_reducible repeat (first|refine blk_drewN ?_ _|refine blk_drew ?_|refine blk_alloc ?_ _)); exact BK135.out⟩,⟨by repeat (first|(with_reducible first|exact HB.out|apply below_alloc|apply pw_below_drewN|apply below_drew1|refine below_set ?_ GE135.out)|exact HB.out)⟩⟩
        ·replace c17:=Bool.eq_false_iff.mpr c17
         subst c17
         have H1:(some (rdOf ByteArray.empty l0_3 x7_2))=some r:=by rw [if_neg (show ¬ (false=true) by decide)] at H; exact H
         clear H
         have H:=H1
         clear H1
         obtain rfl:=Option.some.inj H
         have hcz18_0:wr.cell? ⟨gb135,0,none⟩=some (.int .i64 a0_0):=(blk_cell BK135.out 0).trans rfl
         have hcz18_1:wr.cell? ⟨gb135,1,none⟩=some (.int .i64 a0_1):=(blk_cell BK135.out 1).trans rfl
         have hcz18_2:wr.cell? ⟨gb135,2,none⟩=some (.string a0_2):=(blk_cell BK135.out 2).trans rfl
         have hcz18_3:wr.cell? ⟨gb135,3,none⟩=some (.slice (some ad137) l0_3.length c0_3):=(blk_cell BK135.out 3).trans rfl
         have hcz18_4:wr.cell? ⟨gb135,4,none⟩=some (.slice A0_4 l0_4.length c0_4):=(blk_cell BK135.out 4).trans rfl
         have hfz18_0:=blk_frozen BK135.out 0
         have hfz18_1:=blk_frozen BK135.out 1
         have hfz18_2:=blk_frozen BK135.out 2
         have hfz18_3:=blk_frozen BK135.out 3
         have hfz18_4:=blk_frozen BK135.out 4
         have p139:0≤(x7_2:Int):=of_decide_eq_true (by first|(with_reducible assumption)|assumption)
         have q139:x7_2<(l0_3.length:Int):=of_decide_eq_true (by first|(with_reducible assumption)|assumption)
         obtain ⟨ad139,e139,hx139_0⟩:=Kd.at_string HR0_3.out x7_2 p139 q139
         obtain rfl:ad137=ad139:=(by injection e139)
         replace hx139_0:=(HB.out.cell (World.block_lt_of_cell? w _ hx139_0)).trans hx139_0
         replace p139:=eq_true p139
         replace q139:=eq_true q139
         go_wp2
         go_ret
         exact ⟨by first|rfl|(simp [errW_none,errW_some]<;>rfl)|(simp [*,errW_none,errW_some]<;>rfl),by repeat (first|(with_reducible first|exact HB.out|apply below_alloc|apply pw_below_drewN|apply below_drew1|refine below_set ?_ GE135.out)|exact HB.out)⟩
       ·rw [if_neg c13] at H
        exact absurd H (by simp)
      ·rw [if_neg c12] at H
       have c12b0:decide (x7_2<(l0_3.length:Int))=false:=decide_eq_false c12
       clear c12
       have H':=Aside0.mk H
       clear H
       have hcz19_0:wr.cell? ⟨gb135,0,none⟩=some (.int .i64 a0_0):=(blk_cell BK135.out 0).trans rfl
       have hcz19_1:wr.cell? ⟨gb135,1,none⟩=some (.int .i64 a0_1):=(blk_cell BK135.out 1).trans rfl
       have hcz19_2:wr.cell? ⟨gb135,2,none⟩=some (.string a0_2):=(blk_cell BK135.out 2).trans rfl
       have hcz19_3:wr.cell? ⟨gb135,3,none⟩=some (.slice A0_3 l0_3.length c0_3):=(blk_cell BK135.out 3).trans rfl
       have hcz19_4:wr.cell? ⟨gb135,4,none⟩=some (.slice A0_4 l0_4.length c0_4):=(blk_cell BK135.out 4).trans rfl
       have hfz19_0:=blk_frozen BK135.out 0
       have hfz19_1:=blk_frozen BK135.out 1
       have hfz19_2:=blk_frozen BK135.out 2
       have hfz19_3:=blk_frozen BK135.out 3
       have hfz19_4:=blk_frozen BK135.out 4
       go_wp2
       go_loopg [8] k2 (fun kq v8 w'=>∃ (x8_3:Int),v8=.int .i64 x8_3∧Aside0 (spec_l7Fit.l1 kq l2 x8_3 a0_0 a0_1 a0_2 l0_3 l0_4=some r)∧Aside0 (kq≤k2)∧Aside0 (w'.heap[gb135]?=some (.cells #[.int .i64 a0_0,.int .i64 a0_1,.string a0_2,(.slice A0_3 l0_3.length c0_3),(.slice A0_4 l0_4.length c0_4)] 33 (0,0)))∧Aside0 (Below w.heap.size w w'))
       case atStart=>exact ⟨(0),(by first|rfl|(simp; done)|(simp [*]; done)),H',⟨Nat.le_refl _⟩,⟨by (with_reducible repeat (first|refine blk_drewN ?_ _|refine blk_drew ?_|refine blk_alloc ?_ _)); exact BK135.out⟩,⟨by repeat (first|(with_reducible first|exact HB.out|apply below_alloc|apply pw_below_drewN|apply below_drew1|refine below_set ?_ GE135.out)|exact HB.out)⟩⟩
       case round =>
        clear H'
        try clear c1
        try clear p1
        try clear q1
        try clear hx1
        try clear c2
        try clear p2
        try clear c4
        try clear c6
        try clear c6b0
        try clear c6b1
        try clear p6
        try clear c11
        try clear c12
        try clear c12b0
        try clear c13
        try clear c13b0
        try clear p13
        try clear q13
        try clear hx13
        try clear c17
        try clear c19
        try clear hcz10_0
        try clear hcz10_1
        try clear hcz10_2
        try clear hcz10_3
        try clear hcz10_4
        try clear hcz16_0
        try clear hcz16_1
        try clear hcz16_2
        try clear hcz16_3
        try clear hcz16_4
        try clear hcz18_0
        try clear hcz18_1
        try clear hcz18_2
        try clear hcz18_3
        try clear hcz18_4
        try clear hcz19_0
        try clear hcz19_1
        try clear hcz19_2
        try clear hcz19_3
        try clear hcz19_4
        try clear hcz8_0
        try clear hcz8_1
        try clear hcz8_2
        try clear hcz8_3
        try clear hcz8_4
        try clear hfz10_0
        try clear hfz10_1
        try clear hfz10_2
        try clear hfz10_3
        try clear hfz10_4
        try clear hfz16_0
        try clear hfz16_1
        try clear hfz16_2
        try clear hfz16_3
        try clear hfz16_4
        try clear hfz18_0
        try clear hfz18_1
        try clear hfz18_2
        try clear hfz18_3
        try clear hfz18_4
        try clear hfz19_0
        try clear hfz19_1
        try clear hfz19_2
        try clear hfz19_3
        try clear hfz19_4
        try clear hfz8_0
        try clear hfz8_1
        try clear hfz8_2
        try clear hfz8_3
        try clear hfz8_4
        try clear hx137_0
        try clear hx139_0
        try clear p137
        try clear p139
        try clear p2
        try clear q137
        try clear q139
        obtain ⟨x8_3,rfl,HA,HK3,BK135,HB⟩:=hrel
        cases gk with
        |zero=>exact absurd HA.out (by simp [spec_l7Fit.l1])
        |succ k3 =>
         have H:=HA.out
         clear HA
         simp only [spec_l7Fit.l1] at H
         by_cases c20:x8_3<(l2.length:Int)
         ·rw [if_pos c20] at H
          have c20b0:decide (x8_3<(l2.length:Int))=true:=decide_eq_true c20
          clear c20
          by_cases c21:0≤x8_3
          ·rw [if_pos c21] at H
           have c21b0:decide (0≤x8_3)=true:=decide_eq_true c21
           clear c21
           replace H:=Option.bind_eq_some_iff.mp H
           obtain ⟨t141,A220,H⟩:=H
           replace H:(if t141<0 then (some (rdOf ByteArray.empty l2 x8_3)) else (spec_l7Fit.l1 k3 l2 (wrap64 (x8_3+1)) a0_0 a0_1 a0_2 l0_3 l0_4))=some r:=H
           have A22:=Aside0.mk A220
           clear A220
           have HC23:=Aside0.mk H
           clear H
           try go_wp2
           have n0_:=Aside0.mk (blk_drew BK135.out)
           have n1_:=Aside0.mk (below_drew1 HB.out)
           clear BK135
           clear HB
           have BK135:=n0_
           have HB:=n1_
           clear n0_ n1_
           have p140:0≤(x8_3:Int):=of_decide_eq_true (by first|(with_reducible assumption)|assumption)
           have q140:x8_3<(l2.length:Int):=of_decide_eq_true (by first|(with_reducible assumption)|assumption)
           obtain ⟨ad140,e140,hx140_0⟩:=Kd.at_string HR2.out x8_3 p140 q140
           have hw140_0:=hx140_0
           cases e140
           replace hx140_0:=(HB.out.cell (World.block_lt_of_cell? w _ hx140_0)).trans hx140_0
           replace p140:=eq_true p140
           replace q140:=eq_true q140
           refine start_ (n:=7) (S:=fun w'=>w'.cell? ⟨gb135,0,none⟩=some (.int .i64 a0_0)∧w'.cell? ⟨gb135,1,none⟩=some (.int .i64 a0_1)∧w'.cell? ⟨gb135,2,none⟩=some (.string a0_2)∧w'.cell? ⟨gb135,3,none⟩=some (.slice A0_3 l0_3.length c0_3)∧w'.cell? ⟨gb135,4,none⟩=some (.slice A0_4 l0_4.length c0_4)∧w'.cell? (ad140.add (x8_3).toNat)=some (.string (rdOf ByteArray.empty l2 x8_3))) (ds:=[]) #[false,false,false,false,false,false,false] (by kernel_rfl) rfl rfl ⟨(blk_cell BK135.out 0).trans rfl,(blk_cell BK135.out 1).trans rfl,(blk_cell BK135.out 2).trans rfl,(blk_cell BK135.out 3).trans rfl,(blk_cell BK135.out 4).trans rfl,((HB.out.cell (World.block_lt_of_cell? w _ hw140_0)).trans hw140_0)⟩ (fun hHeld=>?_)
           generalize wr.drew=w24 at BK135 HB hx140_0 hHeld ⊢
           refine pure_ (i:=1) (N:=some 44) (v:=_) (a':=_) (bs_ 7 2) rfl rfl (by kernel_rfl) (fun _ _ _ h=>h) (Or.inl ⟨by rfl,by intro w'; go_simp; first|with_reducible rfl|rfl⟩) (by simp only [Act.put,List.setIfInBounds_toArray,List.set_cons_zero,List.set_cons_succ,i64_w,i32_w]; rfl) ?_
           refine pure_ (i:=2) (N:=some 45) (v:=_) (a':=_) (bs_ 7 6) rfl rfl (by kernel_rfl) (fun _ _ _ h=>h) (Or.inl ⟨by rfl,by intro w'; go_simp; first|with_reducible rfl|rfl⟩) (by simp only [Act.put,List.setIfInBounds_toArray,List.set_cons_zero,List.set_cons_succ,i64_w,i32_w]; rfl) ?_
           refine pure_ (i:=3) (N:=some 46) (v:=_) (a':=_) (bs_ 7 14) rfl rfl (by kernel_rfl) (fun _ _ _ h=>h) (Or.inl ⟨by rfl,by intro w'; go_simp; first|with_reducible rfl|rfl⟩) (by simp only [Act.put,List.setIfInBounds_toArray,List.set_cons_zero,List.set_cons_succ,i64_w,i32_w]; rfl) ?_
           refine take_ (i:=0) (N:=some 43) (v:=?_) (a':=?_) (bs_ 7 15) rfl rfl (by kernel_rfl) (fun _ _ _ h=>h) (Or.inl ⟨by rfl,?_⟩) hHeld ?_ ?_
           rotate_left
           ·rintro w' ⟨s0,s1,s2,s3,s4,s5⟩
            go_simp
            (first|with_reducible rfl|rfl)
           rotate_left
           ·simp only [Act.put,List.setIfInBounds_toArray,List.set_cons_zero,List.set_cons_succ,i64_w,i32_w]
            rfl
           refine take_ (i:=4) (N:=some 47) (v:=?_) (a':=?_) (bs_ 7 31) rfl rfl (by kernel_rfl) (fun _ _ _ h=>h) (Or.inl ⟨by rfl,?_⟩) hHeld ?_ ?_
           rotate_left
           ·rintro w' ⟨s0,s1,s2,s3,s4,s5⟩
            go_simp
            (first|with_reducible rfl|rfl)
           rotate_left
           ·simp only [Act.put,List.setIfInBounds_toArray,List.set_cons_zero,List.set_cons_succ,i64_w,i32_w]
            rfl
           refine one_ (i:=5) (N:=some 48) (bs_ 7 63) rfl rfl (by kernel_rfl) (by decide) (fun K hK=>?_)
           refine goes_ Try.func45 (by kernel_rfl) rfl #[.agg #[.int .i64 a0_0,.int .i64 a0_1,.string a0_2,.slice A0_3 l0_3.length c0_3,.slice A0_4 l0_4.length c0_4],.string (rdOf ByteArray.empty l2 x8_3)] (by rfl) rfl rfl (by (try simp only [List.map_toArray,List.map_cons,List.map_nil]); first|done|rfl|(simp only [List.length_drop,List.length_take]; rfl)) ?_
           with_reducible refine (spec_l3At.calls k3 a0_0 a0_1 a0_2 _ _ l0_3 _ _ l0_4 (rdOf ByteArray.empty l2 x8_3) t141 _ ?side1 ?side2 ?side3 ?side4 A22.out).mono ?_
           (case side1=>repeat (first|exact (Kd.C_below HR0_3.out HB.out)|(with_reducible refine Kd.C_alloc ?_ _)|(with_reducible refine Kd.C_drewN ?_ _)|(with_reducible refine Kd.C_drew ?_)))
           (case side2=>exact HC0_3.out)
           (case side3=>repeat (first|exact (Kd.C_below HR0_4.out HB.out)|(with_reducible refine Kd.C_alloc ?_ _)|(with_reducible refine Kd.C_drewN ?_ _)|(with_reducible refine Kd.C_drew ?_)))
           (case side4=>exact HC0_4.out)
           rintro e w25 ⟨rfl,hb⟩
           refine ⟨_,rfl,?_⟩
           have n0_:=Aside0.mk (blk_below (g:=gb135) (o:=.cells #[.int .i64 a0_0,.int .i64 a0_1,.string a0_2,.slice A0_3 l0_3.length c0_3,.slice A0_4 l0_4.length c0_4] 33 (0,0)) (by (with_reducible repeat (first|refine blk_drewN ?_ _|refine blk_drew ?_|refine blk_alloc ?_ _)); exact BK135.out) hb)
           have n1_:=Aside0.mk (below_step (by repeat (first|(with_reducible first|exact HB.out|apply below_alloc|apply pw_below_drewN|apply below_drew1|refine below_set ?_ GE135.out)|exact HB.out)) hb)
           clear BK135
           clear HB
           have BK135:=n0_
           have HB:=n1_
           clear n0_ n1_
           (try clear hb)
           (try clear hb2)
           (try clear hk)
           (try clear hi)
           refine hK.out _ _ ⟨(blk_cell BK135.out 0).trans rfl,(blk_cell BK135.out 1).trans rfl,(blk_cell BK135.out 2).trans rfl,(blk_cell BK135.out 3).trans rfl,(blk_cell BK135.out 4).trans rfl,((HB.out.cell (World.block_lt_of_cell? w _ hw140_0)).trans hw140_0)⟩ (fun hHeld=>?_)
           clear hK K
           refine norm_ (a':=?_) ?_ ?_
           rotate_left
           ·show Act.put _ (some 48) _=_
            simp only [Act.put,List.setIfInBounds_toArray,List.set_cons_zero,List.set_cons_succ,i64_w,i32_w]
            rfl
           refine pure_ (i:=6) (N:=some 49) (v:=_) (a':=_) (bs_ 7 127) rfl rfl (by kernel_rfl) (fun _ _ _ h=>h) (Or.inl ⟨by rfl,by intro w'; go_simp; first|with_reducible rfl|rfl⟩) (by simp only [Act.put,List.setIfInBounds_toArray,List.set_cons_zero,List.set_cons_succ,i64_w,i32_w]; rfl) ?_
           refine done_ (by kernel_rfl) ?_
           go_upto_if 49 with (fail)
           try clear hw140_0; try clear hx140_0; try clear hHeld
           have H:=HC23.out
           clear HC23
           by_cases c26:t141<0
           ·rw [if_pos c26] at H
            have c26b0:decide (t141<0)=true:=decide_eq_true c26
            clear c26
            (first|rw [c26b0]|(simp only [i64_w,i32_w]; rw [c26b0])|skip)
            obtain rfl:=Option.some.inj H
            have p142:0≤(x8_3:Int):=of_decide_eq_true (by first|(with_reducible assumption)|assumption)
            have q142:x8_3<(l2.length:Int):=of_decide_eq_true (by first|(with_reducible assumption)|assumption)
            obtain ⟨ad142,e142,hx142_0⟩:=Kd.at_string HR2.out x8_3 p142 q142
            obtain rfl:ad140=ad142:=(by injection e142)
            replace hx142_0:=(HB.out.cell (World.block_lt_of_cell? w _ hx142_0)).trans hx142_0
            replace p142:=eq_true p142
            replace q142:=eq_true q142
            go_wp2
            go_ret
            exact ⟨by first|rfl|(simp [errW_none,errW_some]<;>rfl)|(simp [*,errW_none,errW_some]<;>rfl),by repeat (first|(with_reducible first|exact HB.out|apply below_alloc|apply pw_below_drewN|apply below_drew1|refine below_set ?_ GE135.out)|exact HB.out)⟩
           ·rw [if_neg c26] at H
            have c26b0:decide (t141<0)=false:=decide_eq_false c26
            clear c26
            (first|rw [c26b0]|(simp only [i64_w,i32_w]; rw [c26b0])|skip)
            have H':=Aside0.mk H
            clear H
            go_wp2
            go_roundg k3
            case measure=>have:=HJ3.out; have:=HK2.out; have:=HK3.out; omega
            case rel=>exact ⟨(wrap64 (x8_3+1)),(by first|rfl|(simp; done)|(simp [*]; done)),H',⟨by have:=HJ3.out; have:=HK2.out; have:=HK3.out; omega⟩,⟨by (with_reducible repeat (first|refine blk_drewN ?_ _|refine blk_drew ?_|refine blk_alloc ?_ _)); exact BK135.out⟩,⟨by repeat (first|(with_reducible first|exact HB.out|apply below_alloc|apply pw_below_drewN|apply below_drew1|refine below_set ?_ GE135.out)|exact HB.out)⟩⟩
          ·rw [if_neg c21] at H
           exact absurd H (by simp)
         ·rw [if_neg c20] at H
          have c20b0:decide (x8_3<(l2.length:Int))=false:=decide_eq_false c20
          clear c20
          obtain rfl:=Option.some.inj H
          go_wp2
          go_ret
          exact ⟨by first|rfl|(simp [errW_none,errW_some]<;>rfl)|(simp [*,errW_none,errW_some]<;>rfl),by repeat (first|(with_reducible first|exact HB.out|apply below_alloc|apply pw_below_drewN|apply below_drew1|refine below_set ?_ GE135.out)|exact HB.out)⟩
def spec_PaceNew.f:Option (Int × Int × Int × Int):=some (0,0,0,300)
set_option maxHeartbeats 8000000 in
set_option maxRecDepth 100000 in
theorem spec_PaceNew.calls (r1:Int) (r2:Int) (r3:Int) (r4:Int) (w:World) (h:spec_PaceNew.f=some (r1,r2,r3,r4)) :
  Calls Try.prog 20 #[] w fun e w'=>e=.returned (.agg #[.int .i64 r1,.int .i64 r2,.int .i64 r3,.int .i64 r4])∧Below w.heap.size w w':=by
 have hu28:=Try.underlying28
 have HB:=Aside0.mk (Below.refl w.heap.size w)
 have H:(some (0,0,0,300))=some (r1,r2,r3,r4):=h
 clear h
 simp only [Option.some.injEq,Prod.mk.injEq] at H
 obtain ⟨rfl,rfl,rfl,rfl⟩:=H
 go_enter Try.func20,Try.ntmps20
 go_wp2_with (first|((with_reducible refine gate_dst (N:=0) rfl ?_); refine box_event ?hg (N:=0) ?hd (cs:=#[.int .i64 0,.int .i64 0,.int .i64 0,.int .i64 0]) (t:=28) ?hr ?_; (case hd=>rfl); (case hg=>rfl); (case hr=>first|(go_simp; done)|(go_simp; rfl)); intro gb143 hg w1 hbox hb; have n0_:=Aside0.mk (below_step (by repeat (first|(with_reducible first|exact HB.out|apply below_alloc|apply pw_below_drewN|apply below_drew1)|exact HB.out)) hb); have n1_:=Aside0.mk (hbox); have n2_:=Aside0.mk ((by rw [hg]; exact (below_size (by repeat (first|(with_reducible first|exact HB.out|apply below_alloc|apply pw_below_drewN|apply below_drew1)|exact HB.out))):w.heap.size≤gb143)); have n3_:=Aside0.mk ((by rw [hg]; exact (below_size (by repeat (first|(with_reducible first|exact HB.out|apply below_alloc|apply pw_below_drewN|apply below_drew1)|exact HB.out))):w.heap.size≤gb143)); clear HB; have HB:=n0_; have BK143:=n1_; have GW143:=n2_; have GE143:=n3_; clear n0_ n1_ n2_ n3_; clear hb hbox hg; have hcz2_0:w1.cell? ⟨gb143,0,none⟩=some (.int .i64 0):=(blk_cell BK143.out 0).trans rfl; have hcz2_1:w1.cell? ⟨gb143,1,none⟩=some (.int .i64 0):=(blk_cell BK143.out 1).trans rfl; have hcz2_2:w1.cell? ⟨gb143,2,none⟩=some (.int .i64 0):=(blk_cell BK143.out 2).trans rfl; have hcz2_3:w1.cell? ⟨gb143,3,none⟩=some (.int .i64 0):=(blk_cell BK143.out 3).trans rfl; have hfz2_0:=blk_frozen BK143.out 0; have hfz2_1:=blk_frozen BK143.out 1; have hfz2_2:=blk_frozen BK143.out 2; have hfz2_3:=blk_frozen BK143.out 3))
 refine bodyPost_ret (results_cell_row rfl _ _ gb143 28 #[.int .i64 0,.int .i64 0,.int .i64 0,.int .i64 300] (0,0) _ rfl (by (with_reducible repeat (first|refine blk_drewN ?_ _|refine blk_drew ?_|refine blk_alloc ?_ _)); refine blk_put (cs:=#[.int .i64 0,.int .i64 0,.int .i64 0,.int .i64 0]) ?_ 3 _ rfl; (with_reducible repeat (first|refine blk_drewN ?_ _|refine blk_drew ?_|refine blk_alloc ?_ _)); refine blk_put (cs:=#[.int .i64 0,.int .i64 0,.int .i64 0,.int .i64 0]) ?_ 2 _ rfl; (with_reducible repeat (first|refine blk_drewN ?_ _|refine blk_drew ?_|refine blk_alloc ?_ _)); refine blk_put (cs:=#[.int .i64 0,.int .i64 0,.int .i64 0,.int .i64 0]) ?_ 1 _ rfl; (with_reducible repeat (first|refine blk_drewN ?_ _|refine blk_drew ?_|refine blk_alloc ?_ _)); refine blk_put (cs:=#[.int .i64 0,.int .i64 0,.int .i64 0,.int .i64 0]) ?_ 0 _ rfl; (with_reducible repeat (first|refine blk_drewN ?_ _|refine blk_drew ?_|refine blk_alloc ?_ _)); exact BK143.out) Try.underlying28 rfl (by kernel_rfl)) rfl ?_
 exact ⟨by first|rfl|(simp [errW_none,errW_some]<;>rfl)|(simp [*,errW_none,errW_some]<;>rfl),by repeat (first|(with_reducible first|exact HB.out|apply below_alloc|apply pw_below_drewN|apply below_drew1|refine below_set ?_ GE143.out)|exact HB.out)⟩
end
end Go.Proofs.Ytdlhidjphaaklaa.P
