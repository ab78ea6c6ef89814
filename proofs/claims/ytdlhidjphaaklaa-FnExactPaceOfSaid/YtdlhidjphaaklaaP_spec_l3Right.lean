import Derived.Test.YtdlhidjphaaklaaP0
import Derived.Test.YtdlhidjphaaklaaP_laws_szStringS
namespace Go.Proofs.Ytdlhidjphaaklaa.P
open Go.RowKit Go.Proofs.YtdlhidjphaaklaaW.PrintWords Go.Proofs.YtdlhidjphaaklaaW.PrintLast Go.Proofs.YtdlhidjphaaklaaW.PrintMore
attribute [local go_sem] max2_int min2_int max_two min_two max_three min_three max_four min_four
set_option linter.unusedVariables false
set_option linter.unusedSimpArgs false
noncomputable section
mutual
def spec_l3Right.j0:Nat→Bool→Int→Int→ByteArray→List ByteArray→List (S33)→Option (Bool)
 |0,_,_,_,_,_,_=>none
 |k+1,x11,x123000,x123001,x123002,x123003,x123004=>if x11=true then ((spec_l3Leaf.f k x123000 x123001 x123002 x123003 x123004).bind fun t123=>(some t123)) else (if x123001=0 then (if x123002.toList=([]:List UInt8) then (if x123000=4 then (if (x123003.length:Int) > 0 then (spec_l3Right.j1 k true x123000 x123001 x123002 x123003 x123004) else (if x123000=5 then (if (x123003.length:Int)=(x123004.length:Int) then ((spec_l3Keys.f k x123003).bind fun t124=>(spec_l3Right.j1 k (!t124) x123000 x123001 x123002 x123003 x123004)) else (spec_l3Right.j1 k true x123000 x123001 x123002 x123003 x123004)) else (spec_l3Right.j1 k false x123000 x123001 x123002 x123003 x123004))) else (if x123000=5 then (if (x123003.length:Int)=(x123004.length:Int) then ((spec_l3Keys.f k x123003).bind fun t125=>(spec_l3Right.j1 k (!t125) x123000 x123001 x123002 x123003 x123004)) else (spec_l3Right.j1 k true x123000 x123001 x123002 x123003 x123004)) else (spec_l3Right.j1 k false x123000 x123001 x123002 x123003 x123004))) else (spec_l3Right.j1 k true x123000 x123001 x123002 x123003 x123004)) else (spec_l3Right.j1 k true x123000 x123001 x123002 x123003 x123004))
def spec_l3Right.j1:Nat→Bool→Int→Int→ByteArray→List ByteArray→List (S33)→Option (Bool)
 |0,_,_,_,_,_,_=>none
 |k+1,x52,x123000,x123001,x123002,x123003,x123004=>if x52=true then (some false) else (spec_l3Right.l0 k 0 x123000 x123001 x123002 x123003 x123004)
def spec_l3Right.l0:Nat→Int→Int→Int→ByteArray→List ByteArray→List (S33)→Option (Bool)
 |0,_,_,_,_,_,_=>none
 |k+1,x3,x123000,x123001,x123002,x123003,x123004=>if x3<(x123004.length:Int) then (if 0≤x3 then ((spec_l3Right.f k ((rd_T33 x123004 x3).f0) ((rd_T33 x123004 x3).f1) ((rd_T33 x123004 x3).f2) ((rd_T33 x123004 x3).f3) ((rd_T33 x123004 x3).f4)).bind fun t127=>(if t127=true then (spec_l3Right.l0 k (wrap64 (x3+1)) x123000 x123001 x123002 x123003 x123004) else (some false))) else (none)) else (some true)
def spec_l3Right.f:Nat→Int→Int→ByteArray→List ByteArray→List (S33)→Option (Bool)
 |0,_,_,_,_,_=>none
 |k+1,a0_0,a0_1,a0_2,l0_3,l0_4=>if a0_0=4 then (spec_l3Right.j0 k false a0_0 a0_1 a0_2 l0_3 l0_4) else (spec_l3Right.j0 k (a0_0 != 5) a0_0 a0_1 a0_2 l0_3 l0_4)
end
theorem spec_l3Right.mono_l:∀ k,(∀ y0 y1 y2 y3 y4,LeO (spec_l3Right.f k y0 y1 y2 y3 y4) (spec_l3Right.f (k+1) y0 y1 y2 y3 y4))∧(∀ y0 y1 y2 y3 y4 y5,LeO (spec_l3Right.j0 k y0 y1 y2 y3 y4 y5) (spec_l3Right.j0 (k+1) y0 y1 y2 y3 y4 y5))∧(∀ y0 y1 y2 y3 y4 y5,LeO (spec_l3Right.j1 k y0 y1 y2 y3 y4 y5) (spec_l3Right.j1 (k+1) y0 y1 y2 y3 y4 y5))∧(∀ y0 y1 y2 y3 y4 y5,LeO (spec_l3Right.l0 k y0 y1 y2 y3 y4 y5) (spec_l3Right.l0 (k+1) y0 y1 y2 y3 y4 y5))
 |0=>⟨fun _ _ _ _ _ r h=>by simp [spec_l3Right.f] at h,fun _ _ _ _ _ _ r h=>by simp [spec_l3Right.j0] at h,fun _ _ _ _ _ _ r h=>by simp [spec_l3Right.j1] at h,fun _ _ _ _ _ _ r h=>by simp [spec_l3Right.l0] at h⟩
 |k+1=>by
  obtain ⟨ih0,ih1,ih2,ih3⟩:=spec_l3Right.mono_l k
  refine ⟨?_,?_,?_,?_⟩
  ·intro y0 y1 y2 y3 y4
   unfold spec_l3Right.f
   repeat' first
   |(with_reducible exact ih0 _ _ _ _ _)
   |(with_reducible exact ih1 _ _ _ _ _ _)
   |(with_reducible exact ih2 _ _ _ _ _ _)
   |(with_reducible exact ih3 _ _ _ _ _ _)
   |(with_reducible exact spec_l3Keys.mono _ _)
   |(with_reducible exact spec_l3Leaf.mono _ _ _ _ _ _)
   |(with_reducible exact LeO.refl _)
   |(with_reducible exact LeO.none _)
   |(with_reducible refine LeO.ite ?_ ?_)
   |(with_reducible refine LeO.bind ?_ (fun _=>?_))
   |exact ih0 _ _ _ _ _
   |exact ih1 _ _ _ _ _ _
   |exact ih2 _ _ _ _ _ _
   |exact ih3 _ _ _ _ _ _
   |exact spec_l3Keys.mono _ _
   |exact spec_l3Leaf.mono _ _ _ _ _ _
   |exact LeO.none _
   |refine LeO.ite ?_ ?_
   |refine LeO.bind ?_ (fun _=>?_)
  ·intro y0 y1 y2 y3 y4 y5
   unfold spec_l3Right.j0
   repeat' first
   |(with_reducible exact ih0 _ _ _ _ _)
   |(with_reducible exact ih1 _ _ _ _ _ _)
   |(with_reducible exact ih2 _ _ _ _ _ _)
   |(with_reducible exact ih3 _ _ _ _ _ _)
   |(with_reducible exact spec_l3Keys.mono _ _)
   |(with_reducible exact spec_l3Leaf.mono _ _ _ _ _ _)
   |(with_reducible exact LeO.refl _)
   |(with_reducible exact LeO.none _)
   |(with_reducible refine LeO.ite ?_ ?_)
   |(with_reducible refine LeO.bind ?_ (fun _=>?_))
   |exact ih0 _ _ _ _ _
   |exact ih1 _ _ _ _ _ _
   |exact ih2 _ _ _ _ _ _
   |exact ih3 _ _ _ _ _ _
   |exact spec_l3Keys.mono _ _
   |exact spec_l3Leaf.mono _ _ _ _ _ _
   |exact LeO.none _
   |refine LeO.ite ?_ ?_
   |refine LeO.bind ?_ (fun _=>?_)
  ·intro y0 y1 y2 y3 y4 y5
   unfold spec_l3Right.j1
   repeat' first
   |(with_reducible exact ih0 _ _ _ _ _)
   |(with_reducible exact ih1 _ _ _ _ _ _)
   |(with_reducible exact ih2 _ _ _ _ _ _)
   |(with_reducible exact ih3 _ _ _ _ _ _)
   |(with_reducible exact spec_l3Keys.mono _ _)
   |(with_reducible exact spec_l3Leaf.mono _ _ _ _ _ _)
   |(with_reducible exact LeO.refl _)
   |(with_reducible exact LeO.none _)
   |(with_reducible refine LeO.ite ?_ ?_)
   |(with_reducible refine LeO.bind ?_ (fun _=>?_))
   |exact ih0 _ _ _ _ _
   |exact ih1 _ _ _ _ _ _
   |exact ih2 _ _ _ _ _ _
   |exact ih3 _ _ _ _ _ _
   |exact spec_l3Keys.mono _ _
   |exact spec_l3Leaf.mono _ _ _ _ _ _
   |exact LeO.none _
   |refine LeO.ite ?_ ?_
   |refine LeO.bind ?_ (fun _=>?_)
  ·intro y0 y1 y2 y3 y4 y5
   unfold spec_l3Right.l0
   repeat' first
   |(with_reducible exact ih0 _ _ _ _ _)
   |(with_reducible exact ih1 _ _ _ _ _ _)
   |(with_reducible exact ih2 _ _ _ _ _ _)
   |(with_reducible exact ih3 _ _ _ _ _ _)
   |(with_reducible exact spec_l3Keys.mono _ _)
   |(with_reducible exact spec_l3Leaf.mono _ _ _ _ _ _)
   |(with_reducible exact LeO.refl _)
   |(with_reducible exact LeO.none _)
   |(with_reducible refine LeO.ite ?_ ?_)
   |(with_reducible refine LeO.bind ?_ (fun _=>?_))
   |exact ih0 _ _ _ _ _
   |exact ih1 _ _ _ _ _ _
   |exact ih2 _ _ _ _ _ _
   |exact ih3 _ _ _ _ _ _
   |exact spec_l3Keys.mono _ _
   |exact spec_l3Leaf.mono _ _ _ _ _ _
   |exact LeO.none _
   |refine LeO.ite ?_ ?_
   |refine LeO.bind ?_ (fun _=>?_)
theorem spec_l3Right.mono:∀ a0 a1 a2 a3 a4 k,LeO (spec_l3Right.f k a0 a1 a2 a3 a4) (spec_l3Right.f (k+1) a0 a1 a2 a3 a4):=by
 intro a0 a1 a2 a3 a4 k
 obtain ⟨ih0,ih1,ih2,ih3⟩:=spec_l3Right.mono_l k
 exact ih0 a0 a1 a2 a3 a4
set_option maxHeartbeats 8000000 in
set_option maxRecDepth 100000 in
theorem spec_l3Right.calls (k:Nat):∀ (a0_0:Int) (a0_1:Int) (a0_2:ByteArray) (A0_3:Option Addr) (c0_3:Nat) (l0_3:List ByteArray) (A0_4:Option Addr) (c0_4:Nat) (l0_4:List (S33)) (r:Bool) (w:World) (hr0_3:Kd.C Kd.string w A0_3 l0_3.length l0_3) (hc0_3:l0_3.length≤c0_3) (hr0_4:Kd.C k33 w A0_4 l0_4.length l0_4) (hc0_4:l0_4.length≤c0_4) (h:spec_l3Right.f k a0_0 a0_1 a0_2 l0_3 l0_4=some r),
  Calls Try.prog 59 #[.agg #[.int .i64 a0_0,.int .i64 a0_1,.string a0_2,.slice A0_3 l0_3.length c0_3,.slice A0_4 l0_4.length c0_4]] w fun e w'=>e=.returned (.bool r)∧Below w.heap.size w w':=by
 induction k using Nat.strongRecOn with
 |_ k ih =>
 intro a0_0 a0_1 a0_2 A0_3 c0_3 l0_3 A0_4 c0_4 l0_4 r w hr0_3 hc0_3 hr0_4 hc0_4 h
 cases k with
 |zero=>exact absurd h (by simp [spec_l3Right.f])
 |succ k =>
 simp only [spec_l3Right.f] at h
 have hu33:=Try.underlying33
 have HR0_3:=Aside0.mk hr0_3
 have HC0_3:=Aside0.mk hc0_3
 clear hr0_3 hc0_3
 have HR0_4:=Aside0.mk hr0_4
 have HC0_4:=Aside0.mk hc0_4
 clear hr0_4 hc0_4
 have HB:=Aside0.mk (Below.refl w.heap.size w)
 have H:(if a0_0=4 then (spec_l3Right.j0 k false a0_0 a0_1 a0_2 l0_3 l0_4) else (spec_l3Right.j0 k (a0_0 != 5) a0_0 a0_1 a0_2 l0_3 l0_4))=some r:=h
 clear h
 have HC2:=Aside0.mk H
 clear H
 go_enter Try.func59,Try.ntmps59
 go_upto_region 1 with (first|((with_reducible refine gate_dst (N:=1) rfl ?_); (try (refine gate_guard (by rfl) ?_; dsimp only)); refine box_event ?hg (N:=1) ?hd (cs:=#[.int .i64 a0_0,.int .i64 a0_1,.string a0_2,.slice A0_3 l0_3.length c0_3,.slice A0_4 l0_4.length c0_4]) (t:=33) ?hr ?_; (case hd=>rfl); (case hg=>rfl); (case hr=>first|(go_simp; done)|(go_simp; rfl)); intro gb122 hg w3 hbox hb; have n0_:=Aside0.mk (below_step (by repeat (first|(with_reducible first|exact HB.out|apply below_alloc|apply pw_below_drewN|apply below_drew1)|exact HB.out)) hb); have n1_:=Aside0.mk (hbox); have n2_:=Aside0.mk ((by rw [hg]; exact (below_size (by repeat (first|(with_reducible first|exact HB.out|apply below_alloc|apply pw_below_drewN|apply below_drew1)|exact HB.out))):w.heap.size≤gb122)); have n3_:=Aside0.mk ((by rw [hg]; exact (below_size (by repeat (first|(with_reducible first|exact HB.out|apply below_alloc|apply pw_below_drewN|apply below_drew1)|exact HB.out))):w.heap.size≤gb122)); clear HB; have HB:=n0_; have BK122:=n1_; have GW122:=n2_; have GE122:=n3_; clear n0_ n1_ n2_ n3_; clear hb hbox hg))
 (try simp only [Act.put,List.setIfInBounds_toArray,List.set_cons_zero,List.set_cons_succ])
 go_cut [11] (fun v11 wc=>∃ (kq:Nat) (x11_1:Bool),v11=.bool x11_1∧Aside0 (spec_l3Right.j0 kq x11_1 a0_0 a0_1 a0_2 l0_3 l0_4=some r)∧Aside0 (kq≤k)∧Aside0 (wc.heap[gb122]?=some (.cells #[.int .i64 a0_0,.int .i64 a0_1,.string a0_2,(.slice A0_3 l0_3.length c0_3),(.slice A0_4 l0_4.length c0_4)] 33 (0,0)))∧Aside0 (Below w.heap.size w wc))
 case first =>
  have H:=HC2.out
  clear HC2
  by_cases c4:a0_0=4
  ·rw [if_pos c4] at H
   have c4b0:(a0_0 == 4)=true:=beq_iff_eq.mpr c4
   have c4b1:(a0_0 != 4)=false:=bne_eq_false_iff_eq.mpr c4
   clear c4
   (first|rw [c4b0]|rw [c4b1]|(simp only [i64_w,i32_w]; rw [c4b0])|skip)
   have H':=Aside0.mk H
   clear H
   have hcz5_0:w3.cell? ⟨gb122,0,none⟩=some (.int .i64 a0_0):=(blk_cell BK122.out 0).trans rfl
   have hcz5_1:w3.cell? ⟨gb122,1,none⟩=some (.int .i64 a0_1):=(blk_cell BK122.out 1).trans rfl
   have hcz5_2:w3.cell? ⟨gb122,2,none⟩=some (.string a0_2):=(blk_cell BK122.out 2).trans rfl
   have hcz5_3:w3.cell? ⟨gb122,3,none⟩=some (.slice A0_3 l0_3.length c0_3):=(blk_cell BK122.out 3).trans rfl
   have hcz5_4:w3.cell? ⟨gb122,4,none⟩=some (.slice A0_4 l0_4.length c0_4):=(blk_cell BK122.out 4).trans rfl
   have hfz5_0:=blk_frozen BK122.out 0
   have hfz5_1:=blk_frozen BK122.out 1
   have hfz5_2:=blk_frozen BK122.out 2
   have hfz5_3:=blk_frozen BK122.out 3
   have hfz5_4:=blk_frozen BK122.out 4
   go_wp2
   go_meet
   case rel=>exact ⟨_,(false),(by first|rfl|(simp; done)|(simp [*]; done)),H',⟨by first|omega|exact Nat.le_refl _⟩,⟨by (with_reducible repeat (first|refine blk_drewN ?_ _|refine blk_drew ?_|refine blk_alloc ?_ _)); exact BK122.out⟩,⟨by repeat (first|(with_reducible first|exact HB.out|apply below_alloc|apply pw_below_drewN|apply below_drew1|refine below_set ?_ GE122.out)|exact HB.out)⟩⟩
  ·rw [if_neg c4] at H
   have c4b0:(a0_0 == 4)=false:=beq_eq_false_iff_ne.mpr c4
   have c4b1:(a0_0 != 4)=true:=bne_iff_ne.mpr c4
   (first|rw [c4b0]|rw [c4b1]|(simp only [i64_w,i32_w]; rw [c4b0])|skip)
   have H':=Aside0.mk H
   clear H
   have hcz6_0:w3.cell? ⟨gb122,0,none⟩=some (.int .i64 a0_0):=(blk_cell BK122.out 0).trans rfl
   have hcz6_1:w3.cell? ⟨gb122,1,none⟩=some (.int .i64 a0_1):=(blk_cell BK122.out 1).trans rfl
   have hcz6_2:w3.cell? ⟨gb122,2,none⟩=some (.string a0_2):=(blk_cell BK122.out 2).trans rfl
   have hcz6_3:w3.cell? ⟨gb122,3,none⟩=some (.slice A0_3 l0_3.length c0_3):=(blk_cell BK122.out 3).trans rfl
   have hcz6_4:w3.cell? ⟨gb122,4,none⟩=some (.slice A0_4 l0_4.length c0_4):=(blk_cell BK122.out 4).trans rfl
   have hfz6_0:=blk_frozen BK122.out 0
   have hfz6_1:=blk_frozen BK122.out 1
   have hfz6_2:=blk_frozen BK122.out 2
   have hfz6_3:=blk_frozen BK122.out 3
   have hfz6_4:=blk_frozen BK122.out 4
   go_wp2
   go_meet
   case rel=>exact ⟨_,((a0_0 != 5)),(by first|rfl|(simp; done)|(simp [*]; done)),H',⟨by first|omega|exact Nat.le_refl _⟩,⟨by (with_reducible repeat (first|refine blk_drewN ?_ _|refine blk_drew ?_|refine blk_alloc ?_ _)); exact BK122.out⟩,⟨by repeat (first|(with_reducible first|exact HB.out|apply below_alloc|apply pw_below_drewN|apply below_drew1|refine below_set ?_ GE122.out)|exact HB.out)⟩⟩
 case rest =>
  clear HC2
  try clear p2
  try clear c4
  try clear c4b0
  try clear c4b1
  try clear c5
  try clear hcz5_0
  try clear hcz5_1
  try clear hcz5_2
  try clear hcz5_3
  try clear hcz5_4
  try clear hcz6_0
  try clear hcz6_1
  try clear hcz6_2
  try clear hcz6_3
  try clear hcz6_4
  try clear hfz5_0
  try clear hfz5_1
  try clear hfz5_2
  try clear hfz5_3
  try clear hfz5_4
  try clear hfz6_0
  try clear hfz6_1
  try clear hfz6_2
  try clear hfz6_3
  try clear hfz6_4
  obtain ⟨kq,x11_1,rfl,HA,HJ1,BK122,HB⟩:=hcut
  cases kq with
  |zero=>exact absurd HA.out (by simp [spec_l3Right.j0])
  |succ kj1 =>
   have H:=HA.out
   clear HA
   simp only [spec_l3Right.j0] at H
   by_cases c7:x11_1=true
   ·subst c7
    have H1:((spec_l3Leaf.f kj1 a0_0 a0_1 a0_2 l0_3 l0_4).bind fun t123=>(some t123))=some r:=by rw [if_pos rfl] at H; exact H
    clear H
    have H:=H1
    clear H1
    replace H:=Option.bind_eq_some_iff.mp H
    obtain ⟨t123,A80,H⟩:=H
    replace H:(some t123)=some r:=H
    have A8:=Aside0.mk A80
    clear A80
    obtain rfl:=Option.some.inj H
    have hcz9_0:wc.cell? ⟨gb122,0,none⟩=some (.int .i64 a0_0):=(blk_cell BK122.out 0).trans rfl
    have hcz9_1:wc.cell? ⟨gb122,1,none⟩=some (.int .i64 a0_1):=(blk_cell BK122.out 1).trans rfl
    have hcz9_2:wc.cell? ⟨gb122,2,none⟩=some (.string a0_2):=(blk_cell BK122.out 2).trans rfl
    have hcz9_3:wc.cell? ⟨gb122,3,none⟩=some (.slice A0_3 l0_3.length c0_3):=(blk_cell BK122.out 3).trans rfl
    have hcz9_4:wc.cell? ⟨gb122,4,none⟩=some (.slice A0_4 l0_4.length c0_4):=(blk_cell BK122.out 4).trans rfl
    have hfz9_0:=blk_frozen BK122.out 0
    have hfz9_1:=blk_frozen BK122.out 1
    have hfz9_2:=blk_frozen BK122.out 2
    have hfz9_3:=blk_frozen BK122.out 3
    have hfz9_4:=blk_frozen BK122.out 4
    go_wp2_with (first|((with_reducible refine gate_callee (f:=74) rfl ?_); refine goesL_ (some 13) rfl rfl Try.func74 (by kernel_rfl) rfl #[.agg #[.int .i64 a0_0,.int .i64 a0_1,.string a0_2,.slice A0_3 l0_3.length c0_3,.slice A0_4 l0_4.length c0_4]] rfl (by (try simp only [List.map_toArray,List.map_cons,List.map_nil]); first|done|rfl|(simp only [List.length_drop,List.length_take]; rfl)) ?_; (with_reducible refine (spec_l3Leaf.calls kj1 a0_0 a0_1 a0_2 _ _ l0_3 _ _ l0_4 t123 _ ?side1 ?side2 ?side3 ?side4 A8.out).mono ?_); (case side1=>repeat (first|exact (Kd.C_below HR0_3.out HB.out)|(with_reducible refine Kd.C_alloc ?_ _)|(with_reducible refine Kd.C_drewN ?_ _)|(with_reducible refine Kd.C_drew ?_))); (case side2=>exact HC0_3.out); (case side3=>repeat (first|exact (Kd.C_below HR0_4.out HB.out)|(with_reducible refine Kd.C_alloc ?_ _)|(with_reducible refine Kd.C_drewN ?_ _)|(with_reducible refine Kd.C_drew ?_))); (case side4=>exact HC0_4.out); rintro e w10 ⟨rfl,hb⟩; refine ⟨_,rfl,?_⟩; have n0_:=Aside0.mk (blk_below (g:=gb122) (o:=.cells #[.int .i64 a0_0,.int .i64 a0_1,.string a0_2,.slice A0_3 l0_3.length c0_3,.slice A0_4 l0_4.length c0_4] 33 (0,0)) (by (with_reducible repeat (first|refine blk_drewN ?_ _|refine blk_drew ?_|refine blk_alloc ?_ _)); exact BK122.out) hb); have n1_:=Aside0.mk (below_step (by repeat (first|(with_reducible first|exact HB.out|apply below_alloc|apply pw_below_drewN|apply below_drew1|refine below_set ?_ GE122.out)|exact HB.out)) hb); clear BK122; clear HB; have BK122:=n0_; have HB:=n1_; clear n0_ n1_; (try clear hb); (try clear hb2); (try clear hk); (try clear hi)))
    go_ret
    exact ⟨by first|rfl|(simp [errW_none,errW_some]<;>rfl)|(simp [*,errW_none,errW_some]<;>rfl),by repeat (first|(with_reducible first|exact HB.out|apply below_alloc|apply pw_below_drewN|apply below_drew1|refine below_set ?_ GE122.out)|exact HB.out)⟩
   ·replace c7:=Bool.eq_false_iff.mpr c7
    subst c7
    have H1:(if a0_1=0 then (if a0_2.toList=([]:List UInt8) then (if a0_0=4 then (if (l0_3.length:Int) > 0 then (spec_l3Right.j1 kj1 true a0_0 a0_1 a0_2 l0_3 l0_4) else (if a0_0=5 then (if (l0_3.length:Int)=(l0_4.length:Int) then ((spec_l3Keys.f kj1 l0_3).bind fun t124=>(spec_l3Right.j1 kj1 (!t124) a0_0 a0_1 a0_2 l0_3 l0_4)) else (spec_l3Right.j1 kj1 true a0_0 a0_1 a0_2 l0_3 l0_4)) else (spec_l3Right.j1 kj1 false a0_0 a0_1 a0_2 l0_3 l0_4))) else (if a0_0=5 then (if (l0_3.length:Int)=(l0_4.length:Int) then ((spec_l3Keys.f kj1 l0_3).bind fun t125=>(spec_l3Right.j1 kj1 (!t125) a0_0 a0_1 a0_2 l0_3 l0_4)) else (spec_l3Right.j1 kj1 true a0_0 a0_1 a0_2 l0_3 l0_4)) else (spec_l3Right.j1 kj1 false a0_0 a0_1 a0_2 l0_3 l0_4))) else (spec_l3Right.j1 kj1 true a0_0 a0_1 a0_2 l0_3 l0_4)) else (spec_l3Right.j1 kj1 true a0_0 a0_1 a0_2 l0_3 l0_4))=some r:=by rw [if_neg (show ¬ (false=true) by decide)] at H; exact H
    clear H
    have H:=H1
    clear H1
    have HC11:=Aside0.mk H
    clear H
    go_upto_region 3 with (fail)
    go_cut [52] (fun v52 wc=>∃ (kq:Nat) (x52_10:Bool),v52=.bool x52_10∧Aside0 (spec_l3Right.j1 kq x52_10 a0_0 a0_1 a0_2 l0_3 l0_4=some r)∧Aside0 (kq≤kj1)∧Aside0 (wc.heap[gb122]?=some (.cells #[.int .i64 a0_0,.int .i64 a0_1,.string a0_2,(.slice A0_3 l0_3.length c0_3),(.slice A0_4 l0_4.length c0_4)] 33 (0,0)))∧Aside0 (Below w.heap.size w wc))
    case first =>
     have H:=HC11.out
     clear HC11
     by_cases c12:a0_1=0
     ·rw [if_pos c12] at H
      have c12b0:(a0_1 == 0)=true:=beq_iff_eq.mpr c12
      have c12b1:(a0_1 != 0)=false:=bne_eq_false_iff_eq.mpr c12
      clear c12
      (first|rw [c12b0]|rw [c12b1]|(simp only [i64_w,i32_w]; rw [c12b0])|skip)
      by_cases c13:a0_2.toList=([]:List UInt8)
      ·rw [if_pos c13] at H
       have c13b0:(a0_2.toList == ([]:List UInt8))=true:=beq_iff_eq.mpr c13
       have c13b1:(a0_2.toList != ([]:List UInt8))=false:=bne_eq_false_iff_eq.mpr c13
       clear c13
       by_cases c14:a0_0=4
       ·rw [if_pos c14] at H
        have c14b0:(a0_0 == 4)=true:=beq_iff_eq.mpr c14
        have c14b1:(a0_0 != 4)=false:=bne_eq_false_iff_eq.mpr c14
        clear c14
        by_cases c15:(l0_3.length:Int) > 0
        ·rw [if_pos c15] at H
         have c15b0:decide (0<(l0_3.length:Int))=true:=decide_eq_true c15
         have c15b1:decide (0<l0_3.length)=true:=decide_eq_true (by omega)
         clear c15
         have H':=Aside0.mk H
         clear H
         have hcz16_0:wc.cell? ⟨gb122,0,none⟩=some (.int .i64 a0_0):=(blk_cell BK122.out 0).trans rfl
         have hcz16_1:wc.cell? ⟨gb122,1,none⟩=some (.int .i64 a0_1):=(blk_cell BK122.out 1).trans rfl
         have hcz16_2:wc.cell? ⟨gb122,2,none⟩=some (.string a0_2):=(blk_cell BK122.out 2).trans rfl
         have hcz16_3:wc.cell? ⟨gb122,3,none⟩=some (.slice A0_3 l0_3.length c0_3):=(blk_cell BK122.out 3).trans rfl
         have hcz16_4:wc.cell? ⟨gb122,4,none⟩=some (.slice A0_4 l0_4.length c0_4):=(blk_cell BK122.out 4).trans rfl
         have hfz16_0:=blk_frozen BK122.out 0
         have hfz16_1:=blk_frozen BK122.out 1
         have hfz16_2:=blk_frozen BK122.out 2
         have hfz16_3:=blk_frozen BK122.out 3
         have hfz16_4:=blk_frozen BK122.out 4
         go_wp2
         go_meet
         case rel=>exact ⟨_,(true),(by first|rfl|(simp; done)|(simp [*]; done)),H',⟨by have:=HJ1.out; first|omega|exact Nat.le_refl _⟩,⟨by (with_reducible repeat (first|refine blk_drewN ?_ _|refine blk_drew ?_|refine blk_alloc ?_ _)); exact BK122.out⟩,⟨by repeat (first|(with_reducible first|exact HB.out|apply below_alloc|apply pw_below_drewN|apply below_drew1|refine below_set ?_ GE122.out)|exact HB.out)⟩⟩
        ·rw [if_neg c15] at H
         have c15b0:decide (0<(l0_3.length:Int))=false:=decide_eq_false c15
         have c15b1:decide (0<l0_3.length)=false:=decide_eq_false (by omega)
         clear c15
         by_cases c17:a0_0=5
         ·rw [if_pos c17] at H
          have c17b0:(a0_0 == 5)=true:=beq_iff_eq.mpr c17
          have c17b1:(a0_0 != 5)=false:=bne_eq_false_iff_eq.mpr c17
          clear c17
          by_cases c18:(l0_3.length:Int)=(l0_4.length:Int)
          ·rw [if_pos c18] at H
           have c18b0:((l0_3.length:Int) == (l0_4.length:Int))=true:=beq_iff_eq.mpr c18
           have c18b1:((l0_3.length:Int) != (l0_4.length:Int))=false:=bne_eq_false_iff_eq.mpr c18
           have c18b2:(l0_3.length == l0_4.length)=true:=by first|simpa using c18|(simp at c18 ⊢; omega)
           clear c18
           replace H:=Option.bind_eq_some_iff.mp H
           obtain ⟨t124,A190,H⟩:=H
           replace H:(spec_l3Right.j1 kj1 (!t124) a0_0 a0_1 a0_2 l0_3 l0_4)=some r:=H
           have A19:=Aside0.mk A190
           clear A190
           have H':=Aside0.mk H
           clear H
           have hcz20_0:wc.cell? ⟨gb122,0,none⟩=some (.int .i64 a0_0):=(blk_cell BK122.out 0).trans rfl
           have hcz20_1:wc.cell? ⟨gb122,1,none⟩=some (.int .i64 a0_1):=(blk_cell BK122.out 1).trans rfl
           have hcz20_2:wc.cell? ⟨gb122,2,none⟩=some (.string a0_2):=(blk_cell BK122.out 2).trans rfl
           have hcz20_3:wc.cell? ⟨gb122,3,none⟩=some (.slice A0_3 l0_3.length c0_3):=(blk_cell BK122.out 3).trans rfl
           have hcz20_4:wc.cell? ⟨gb122,4,none⟩=some (.slice A0_4 l0_4.length c0_4):=(blk_cell BK122.out 4).trans rfl
           have hfz20_0:=blk_frozen BK122.out 0
           have hfz20_1:=blk_frozen BK122.out 1
           have hfz20_2:=blk_frozen BK122.out 2
           have hfz20_3:=blk_frozen BK122.out 3
           have hfz20_4:=blk_frozen BK122.out 4
           go_wp2_with (first|(go_at_call 75; (with_reducible refine (spec_l3Keys.calls kj1 _ _ l0_3 t124 _ ?side1 ?side2 A19.out).mono ?_); (case side1=>repeat (first|exact (Kd.C_below HR0_3.out HB.out)|(with_reducible refine Kd.C_alloc ?_ _)|(with_reducible refine Kd.C_drewN ?_ _)|(with_reducible refine Kd.C_drew ?_))); (case side2=>exact HC0_3.out); rintro e w' ⟨rfl,⟨nd,rfl⟩⟩))
           go_meet
           case rel=>exact ⟨_,(!t124),(by first|rfl|(simp; done)|(simp [*]; done)),H',⟨by have:=HJ1.out; first|omega|exact Nat.le_refl _⟩,⟨by (with_reducible repeat (first|refine blk_drewN ?_ _|refine blk_drew ?_|refine blk_alloc ?_ _)); exact BK122.out⟩,⟨by repeat (first|(with_reducible first|exact HB.out|apply below_alloc|apply pw_below_drewN|apply below_drew1|refine below_set ?_ GE122.out)|exact HB.out)⟩⟩
          ·rw [if_neg c18] at H
           have c18b0:((l0_3.length:Int) == (l0_4.length:Int))=false:=beq_eq_false_iff_ne.mpr c18
           have c18b1:((l0_3.length:Int) != (l0_4.length:Int))=true:=bne_iff_ne.mpr c18
           have c18b2:(l0_3.length == l0_4.length)=false:=by first|simpa using c18|(simp at c18 ⊢; omega)
           have H':=Aside0.mk H
           clear H
           have hcz21_0:wc.cell? ⟨gb122,0,none⟩=some (.int .i64 a0_0):=(blk_cell BK122.out 0).trans rfl
           have hcz21_1:wc.cell? ⟨gb122,1,none⟩=some (.int .i64 a0_1):=(blk_cell BK122.out 1).trans rfl
           have hcz21_2:wc.cell? ⟨gb122,2,none⟩=some (.string a0_2):=(blk_cell BK122.out 2).trans rfl
           have hcz21_3:wc.cell? ⟨gb122,3,none⟩=some (.slice A0_3 l0_3.length c0_3):=(blk_cell BK122.out 3).trans rfl
           have hcz21_4:wc.cell? ⟨gb122,4,none⟩=some (.slice A0_4 l0_4.length c0_4):=(blk_cell BK122.out 4).trans rfl
           have hfz21_0:=blk_frozen BK122.out 0
           have hfz21_1:=blk_frozen BK122.out 1
           have hfz21_2:=blk_frozen BK122.out 2
           have hfz21_3:=blk_frozen BK122.out 3
           have hfz21_4:=blk_frozen BK122.out 4
           go_wp2
           go_meet
           case rel=>exact ⟨_,(true),(by first|rfl|(simp; done)|(simp [*]; done)),H',⟨by have:=HJ1.out; first|omega|exact Nat.le_refl _⟩,⟨by (with_reducible repeat (first|refine blk_drewN ?_ _|refine blk_drew ?_|refine blk_alloc ?_ _)); exact BK122.out⟩,⟨by repeat (first|(with_reducible first|exact HB.out|apply below_alloc|apply pw_below_drewN|apply below_drew1|refine below_set ?_ GE122.out)|exact HB.out)⟩⟩
         ·rw [if_neg c17] at H
          have c17b0:(a0_0 == 5)=false:=beq_eq_false_iff_ne.mpr c17
          have c17b1:(a0_0 != 5)=true:=bne_iff_ne.mpr c17
          have H':=Aside0.mk H
          clear H
          have hcz22_0:wc.cell? ⟨gb122,0,none⟩=some (.int .i64 a0_0):=(blk_cell BK122.out 0).trans rfl
          have hcz22_1:wc.cell? ⟨gb122,1,none⟩=some (.int .i64 a0_1):=(blk_cell BK122.out 1).trans rfl
          have hcz22_2:wc.cell? ⟨gb122,2,none⟩=some (.string a0_2):=(blk_cell BK122.out 2).trans rfl
          have hcz22_3:wc.cell? ⟨gb122,3,none⟩=some (.slice A0_3 l0_3.length c0_3):=(blk_cell BK122.out 3).trans rfl
          have hcz22_4:wc.cell? ⟨gb122,4,none⟩=some (.slice A0_4 l0_4.length c0_4):=(blk_cell BK122.out 4).trans rfl
          have hfz22_0:=blk_frozen BK122.out 0
          have hfz22_1:=blk_frozen BK122.out 1
          have hfz22_2:=blk_frozen BK122.out 2
          have hfz22_3:=blk_frozen BK122.out 3
          have hfz22_4:=blk_frozen BK122.out 4
          go_wp2
          go_meet
          case rel=>exact ⟨_,(false),(by first|rfl|(simp; done)|(simp [*]; done)),H',⟨by have:=HJ1.out; first|omega|exact Nat.le_refl _⟩,⟨by (with_reducible repeat (first|refine blk_drewN ?_ _|refine blk_drew ?_|refine blk_alloc ?_ _)); exact BK122.out⟩,⟨by repeat (first|(with_reducible first|exact HB.out|apply below_alloc|apply pw_below_drewN|apply below_drew1|refine below_set ?_ GE122.out)|exact HB.out)⟩⟩
       ·rw [if_neg c14] at H
        have c14b0:(a0_0 == 4)=false:=beq_eq_false_iff_ne.mpr c14
        have c14b1:(a0_0 != 4)=true:=bne_iff_ne.mpr c14
        by_cases c23:a0_0=5
        ·rw [if_pos c23] at H
         have c23b0:(a0_0 == 5)=true:=beq_iff_eq.mpr c23
         have c23b1:(a0_0 != 5)=false:=bne_eq_false_iff_eq.mpr c23
         clear c23
         by_cases c24:(l0_3.length:Int)=(l0_4.length:Int)
         ·rw [if_pos c24] at H
          have c24b0:((l0_3.length:Int) == (l0_4.length:Int))=true:=beq_iff_eq.mpr c24
          have c24b1:((l0_3.length:Int) != (l0_4.length:Int))=false:=bne_eq_false_iff_eq.mpr c24
          have c24b2:(l0_3.length == l0_4.length)=true:=by first|simpa using c24|(simp at c24 ⊢; omega)
          clear c24
          replace H:=Option.bind_eq_some_iff.mp H
          obtain ⟨t125,A250,H⟩:=H
          replace H:(spec_l3Right.j1 kj1 (!t125) a0_0 a0_1 a0_2 l0_3 l0_4)=some r:=H
          have A25:=Aside0.mk A250
          clear A250
          have H':=Aside0.mk H
          clear H
          have hcz26_0:wc.cell? ⟨gb122,0,none⟩=some (.int .i64 a0_0):=(blk_cell BK122.out 0).trans rfl
          have hcz26_1:wc.cell? ⟨gb122,1,none⟩=some (.int .i64 a0_1):=(blk_cell BK122.out 1).trans rfl
          have hcz26_2:wc.cell? ⟨gb122,2,none⟩=some (.string a0_2):=(blk_cell BK122.out 2).trans rfl
          have hcz26_3:wc.cell? ⟨gb122,3,none⟩=some (.slice A0_3 l0_3.length c0_3):=(blk_cell BK122.out 3).trans rfl
          have hcz26_4:wc.cell? ⟨gb122,4,none⟩=some (.slice A0_4 l0_4.length c0_4):=(blk_cell BK122.out 4).trans rfl
          have hfz26_0:=blk_frozen BK122.out 0
          have hfz26_1:=blk_frozen BK122.out 1
          have hfz26_2:=blk_frozen BK122.out 2
          have hfz26_3:=blk_frozen BK122.out 3
          have hfz26_4:=blk_frozen BK122.out 4
          go_wp2_with (first|(go_at_call 75; (with_reducible refine (spec_l3Keys.calls kj1 _ _ l0_3 t125 _ ?side1 ?side2 A25.out).mono ?_); (case side1=>repeat (first|exact (Kd.C_below HR0_3.out HB.out)|(with_reducible refine Kd.C_alloc ?_ _)|(with_reducible refine Kd.C_drewN ?_ _)|(with_reducible refine Kd.C_drew ?_))); (case side2=>exact HC0_3.out); rintro e w' ⟨rfl,⟨nd,rfl⟩⟩))
          go_meet
          case rel=>exact ⟨_,(!t125),(by first|rfl|(simp; done)|(simp [*]; done)),H',⟨by have:=HJ1.out; first|omega|exact Nat.le_refl _⟩,⟨by (with_reducible repeat (first|refine blk_drewN ?_ _|refine blk_drew ?_|refine blk_alloc ?_ _)); exact BK122.out⟩,⟨by repeat (first|(with_reducible first|exact HB.out|apply below_alloc|apply pw_below_drewN|apply below_drew1|refine below_set ?_ GE122.out)|exact HB.out)⟩⟩
         ·rw [if_neg c24] at H
          have c24b0:((l0_3.length:Int) == (l0_4.length:Int))=false:=beq_eq_false_iff_ne.mpr c24
          have c24b1:((l0_3.length:Int) != (l0_4.length:Int))=true:=bne_iff_ne.mpr c24
          have c24b2:(l0_3.length == l0_4.length)=false:=by first|simpa using c24|(simp at c24 ⊢; omega)
          have H':=Aside0.mk H
          clear H
          have hcz27_0:wc.cell? ⟨gb122,0,none⟩=some (.int .i64 a0_0):=(blk_cell BK122.out 0).trans rfl
          have hcz27_1:wc.cell? ⟨gb122,1,none⟩=some (.int .i64 a0_1):=(blk_cell BK122.out 1).trans rfl
          have hcz27_2:wc.cell? ⟨gb122,2,none⟩=some (.string a0_2):=(blk_cell BK122.out 2).trans rfl
          have hcz27_3:wc.cell? ⟨gb122,3,none⟩=some (.slice A0_3 l0_3.length c0_3):=(blk_cell BK122.out 3).trans rfl
          have hcz27_4:wc.cell? ⟨gb122,4,none⟩=some (.slice A0_4 l0_4.length c0_4):=(blk_cell BK122.out 4).trans rfl
          have hfz27_0:=blk_frozen BK122.out 0
          have hfz27_1:=blk_frozen BK122.out 1
          have hfz27_2:=blk_frozen BK122.out 2
          have hfz27_3:=blk_frozen BK122.out 3
          have hfz27_4:=blk_frozen BK122.out 4
          go_wp2
          go_meet
          case rel=>exact ⟨_,(true),(by first|rfl|(simp; done)|(simp [*]; done)),H',⟨by have:=HJ1.out; first|omega|exact Nat.le_refl _⟩,⟨by (with_reducible repeat (first|refine blk_drewN ?_ _|refine blk_drew ?_|refine blk_alloc ?_ _)); exact BK122.out⟩,⟨by repeat (first|(with_reducible first|exact HB.out|apply below_alloc|apply pw_below_drewN|apply below_drew1|refine below_set ?_ GE122.out)|exact HB.out)⟩⟩
        ·rw [if_neg c23] at H
         have c23b0:(a0_0 == 5)=false:=beq_eq_false_iff_ne.mpr c23
         have c23b1:(a0_0 != 5)=true:=bne_iff_ne.mpr c23
         have H':=Aside0.mk H
         clear H
         have hcz28_0:wc.cell? ⟨gb122,0,none⟩=some (.int .i64 a0_0):=(blk_cell BK122.out 0).trans rfl
         have hcz28_1:wc.cell? ⟨gb122,1,none⟩=some (.int .i64 a0_1):=(blk_cell BK122.out 1).trans rfl
         have hcz28_2:wc.cell? ⟨gb122,2,none⟩=some (.string a0_2):=(blk_cell BK122.out 2).trans rfl
         have hcz28_3:wc.cell? ⟨gb122,3,none⟩=some (.slice A0_3 l0_3.length c0_3):=(blk_cell BK122.out 3).trans rfl
         have hcz28_4:wc.cell? ⟨gb122,4,none⟩=some (.slice A0_4 l0_4.length c0_4):=(blk_cell BK122.out 4).trans rfl
         have hfz28_0:=blk_frozen BK122.out 0
         have hfz28_1:=blk_frozen BK122.out 1
         have hfz28_2:=blk_frozen BK122.out 2
         have hfz28_3:=blk_frozen BK122.out 3
         have hfz28_4:=blk_frozen BK122.out 4
         go_wp2
         go_meet
         case rel=>exact ⟨_,(false),(by first|rfl|(simp; done)|(simp [*]; done)),H',⟨by have:=HJ1.out; first|omega|exact Nat.le_refl _⟩,⟨by (with_reducible repeat (first|refine blk_drewN ?_ _|refine blk_drew ?_|refine blk_alloc ?_ _)); exact BK122.out⟩,⟨by repeat (first|(with_reducible first|exact HB.out|apply below_alloc|apply pw_below_drewN|apply below_drew1|refine below_set ?_ GE122.out)|exact HB.out)⟩⟩
      ·rw [if_neg c13] at H
       have c13b0:(a0_2.toList == ([]:List UInt8))=false:=beq_eq_false_iff_ne.mpr c13
       have c13b1:(a0_2.toList != ([]:List UInt8))=true:=bne_iff_ne.mpr c13
       have H':=Aside0.mk H
       clear H
       have hcz29_0:wc.cell? ⟨gb122,0,none⟩=some (.int .i64 a0_0):=(blk_cell BK122.out 0).trans rfl
       have hcz29_1:wc.cell? ⟨gb122,1,none⟩=some (.int .i64 a0_1):=(blk_cell BK122.out 1).trans rfl
       have hcz29_2:wc.cell? ⟨gb122,2,none⟩=some (.string a0_2):=(blk_cell BK122.out 2).trans rfl
       have hcz29_3:wc.cell? ⟨gb122,3,none⟩=some (.slice A0_3 l0_3.length c0_3):=(blk_cell BK122.out 3).trans rfl
       have hcz29_4:wc.cell? ⟨gb122,4,none⟩=some (.slice A0_4 l0_4.length c0_4):=(blk_cell BK122.out 4).trans rfl
       have hfz29_0:=blk_frozen BK122.out 0
       have hfz29_1:=blk_frozen BK122.out 1
       have hfz29_2:=blk_frozen BK122.out 2
       have hfz29_3:=blk_frozen BK122.out 3
       have hfz29_4:=blk_frozen BK122.out 4
       go_wp2
       go_meet
       case rel=>exact ⟨_,(true),(by first|rfl|(simp; done)|(simp [*]; done)),H',⟨by have:=HJ1.out; first|omega|exact Nat.le_refl _⟩,⟨by (with_reducible repeat (first|refine blk_drewN ?_ _|refine blk_drew ?_|refine blk_alloc ?_ _)); exact BK122.out⟩,⟨by repeat (first|(with_reducible first|exact HB.out|apply below_alloc|apply pw_below_drewN|apply below_drew1|refine below_set ?_ GE122.out)|exact HB.out)⟩⟩
     ·rw [if_neg c12] at H
      have c12b0:(a0_1 == 0)=false:=beq_eq_false_iff_ne.mpr c12
      have c12b1:(a0_1 != 0)=true:=bne_iff_ne.mpr c12
      (first|rw [c12b0]|rw [c12b1]|(simp only [i64_w,i32_w]; rw [c12b0])|skip)
      have H':=Aside0.mk H
      clear H
      have hcz30_0:wc.cell? ⟨gb122,0,none⟩=some (.int .i64 a0_0):=(blk_cell BK122.out 0).trans rfl
      have hcz30_1:wc.cell? ⟨gb122,1,none⟩=some (.int .i64 a0_1):=(blk_cell BK122.out 1).trans rfl
      have hcz30_2:wc.cell? ⟨gb122,2,none⟩=some (.string a0_2):=(blk_cell BK122.out 2).trans rfl
      have hcz30_3:wc.cell? ⟨gb122,3,none⟩=some (.slice A0_3 l0_3.length c0_3):=(blk_cell BK122.out 3).trans rfl
      have hcz30_4:wc.cell? ⟨gb122,4,none⟩=some (.slice A0_4 l0_4.length c0_4):=(blk_cell BK122.out 4).trans rfl
      have hfz30_0:=blk_frozen BK122.out 0
      have hfz30_1:=blk_frozen BK122.out 1
      have hfz30_2:=blk_frozen BK122.out 2
      have hfz30_3:=blk_frozen BK122.out 3
      have hfz30_4:=blk_frozen BK122.out 4
      go_wp2
      go_meet
      case rel=>exact ⟨_,(true),(by first|rfl|(simp; done)|(simp [*]; done)),H',⟨by have:=HJ1.out; first|omega|exact Nat.le_refl _⟩,⟨by (with_reducible repeat (first|refine blk_drewN ?_ _|refine blk_drew ?_|refine blk_alloc ?_ _)); exact BK122.out⟩,⟨by repeat (first|(with_reducible first|exact HB.out|apply below_alloc|apply pw_below_drewN|apply below_drew1|refine below_set ?_ GE122.out)|exact HB.out)⟩⟩
    case rest =>
     clear HC11
     try clear c1
     try clear c2
     try clear p2
     try clear c4
     try clear c4b0
     try clear c4b1
     try clear c5
     try clear c7
     try clear c12
     try clear c12b0
     try clear c12b1
     try clear c13
     try clear c13b0
     try clear c13b1
     try clear c14
     try clear c14b0
     try clear c14b1
     try clear c15
     try clear c15b0
     try clear c15b1
     try clear c17
     try clear c17b0
     try clear c17b1
     try clear c18
     try clear c18b0
     try clear c18b1
     try clear c18b2
     try clear c23
     try clear c23b0
     try clear c23b1
     try clear c24
     try clear c24b0
     try clear c24b1
     try clear c24b2
     try clear hcz16_0
     try clear hcz16_1
     try clear hcz16_2
     try clear hcz16_3
     try clear hcz16_4
     try clear hcz20_0
     try clear hcz20_1
     try clear hcz20_2
     try clear hcz20_3
     try clear hcz20_4
     try clear hcz21_0
     try clear hcz21_1
     try clear hcz21_2
     try clear hcz21_3
     try clear hcz21_4
     try clear hcz22_0
     try clear hcz22_1
     try clear hcz22_2
     try clear hcz22_3
     try clear hcz22_4
     try clear hcz26_0
     try clear hcz26_1
     try clear hcz26_2
     try clear hcz26_3
     try clear hcz26_4
     try clear hcz27_0
     try clear hcz27_1
     try clear hcz27_2
     try clear hcz27_3
     try clear hcz27_4
     try clear hcz28_0
     try clear hcz28_1
     try clear hcz28_2
     try clear hcz28_3
     try clear hcz28_4
     try clear hcz29_0
     try clear hcz29_1
     try clear hcz29_2
     try clear hcz29_3
     try clear hcz29_4
     try clear hcz30_0
     try clear hcz30_1
     try clear hcz30_2
     try clear hcz30_3
     try clear hcz30_4
     try clear hcz5_0
     try clear hcz5_1
     try clear hcz5_2
     try clear hcz5_3
     try clear hcz5_4
     try clear hcz6_0
     try clear hcz6_1
     try clear hcz6_2
     try clear hcz6_3
     try clear hcz6_4
     try clear hcz9_0
     try clear hcz9_1
     try clear hcz9_2
     try clear hcz9_3
     try clear hcz9_4
     try clear hfz16_0
     try clear hfz16_1
     try clear hfz16_2
     try clear hfz16_3
     try clear hfz16_4
     try clear hfz20_0
     try clear hfz20_1
     try clear hfz20_2
     try clear hfz20_3
     try clear hfz20_4
     try clear hfz21_0
     try clear hfz21_1
     try clear hfz21_2
     try clear hfz21_3
     try clear hfz21_4
     try clear hfz22_0
     try clear hfz22_1
     try clear hfz22_2
     try clear hfz22_3
     try clear hfz22_4
     try clear hfz26_0
     try clear hfz26_1
     try clear hfz26_2
     try clear hfz26_3
     try clear hfz26_4
     try clear hfz27_0
     try clear hfz27_1
     try clear hfz27_2
     try clear hfz27_3
     try clear hfz27_4
     try clear hfz28_0
     try clear hfz28_1
     try clear hfz28_2
     try clear hfz28_3
     try clear hfz28_4
     try clear hfz29_0
     try clear hfz29_1
     try clear hfz29_2
     try clear hfz29_3
     try clear hfz29_4
     try clear hfz30_0
     try clear hfz30_1
     try clear hfz30_2
     try clear hfz30_3
     try clear hfz30_4
     try clear hfz5_0
     try clear hfz5_1
     try clear hfz5_2
     try clear hfz5_3
     try clear hfz5_4
     try clear hfz6_0
     try clear hfz6_1
     try clear hfz6_2
     try clear hfz6_3
     try clear hfz6_4
     try clear hfz9_0
     try clear hfz9_1
     try clear hfz9_2
     try clear hfz9_3
     try clear hfz9_4
     try clear p2
     obtain ⟨kq,x52_10,rfl,HA,HJ10,BK122,HB⟩:=hcut
     cases kq with
     |zero=>exact absurd HA.out (by simp [spec_l3Right.j1])
     |succ kj10 =>
      have H:=HA.out
      clear HA
      simp only [spec_l3Right.j1] at H
      by_cases c31:x52_10=true
      ·subst c31
       have H1:(some false)=some r:=by rw [if_pos rfl] at H; exact H
       clear H
       have H:=H1
       clear H1
       obtain rfl:=Option.some.inj H
       go_wp2
       go_ret
       exact ⟨by first|rfl|(simp [errW_none,errW_some]<;>rfl)|(simp [*,errW_none,errW_some]<;>rfl),by repeat (first|(with_reducible first|exact HB.out|apply below_alloc|apply pw_below_drewN|apply below_drew1|refine below_set ?_ GE122.out)|exact HB.out)⟩
      ·replace c31:=Bool.eq_false_iff.mpr c31
       subst c31
       have H1:(spec_l3Right.l0 kj10 0 a0_0 a0_1 a0_2 l0_3 l0_4)=some r:=by rw [if_neg (show ¬ (false=true) by decide)] at H; exact H
       clear H
       have H:=H1
       clear H1
       have H':=Aside0.mk H
       clear H
       go_wp2
       go_loopg [3] kj10 (fun kq v3 w'=>∃ (x3_3:Int),v3=.int .i64 x3_3∧Aside0 (spec_l3Right.l0 kq x3_3 a0_0 a0_1 a0_2 l0_3 l0_4=some r)∧Aside0 (kq≤kj10)∧Aside0 (w'.heap[gb122]?=some (.cells #[.int .i64 a0_0,.int .i64 a0_1,.string a0_2,(.slice A0_3 l0_3.length c0_3),(.slice A0_4 l0_4.length c0_4)] 33 (0,0)))∧Aside0 (Below w.heap.size w w'))
       case atStart=>exact ⟨(0),(by first|rfl|(simp; done)|(simp [*]; done)),H',⟨Nat.le_refl _⟩,⟨by (with_reducible repeat (first|refine blk_drewN ?_ _|refine blk_drew ?_|refine blk_alloc ?_ _)); exact BK122.out⟩,⟨by repeat (first|(with_reducible first|exact HB.out|apply below_alloc|apply pw_below_drewN|apply below_drew1|refine below_set ?_ GE122.out)|exact HB.out)⟩⟩
       case round =>
        clear H'
        try clear c1
        try clear c2
        try clear p2
        try clear c3
        try clear c4
        try clear c4b0
        try clear c4b1
        try clear c5
        try clear c7
        try clear c12
        try clear c12b0
        try clear c12b1
        try clear c13
        try clear c13b0
        try clear c13b1
        try clear c14
        try clear c14b0
        try clear c14b1
        try clear c15
        try clear c15b0
        try clear c15b1
        try clear c17
        try clear c17b0
        try clear c17b1
        try clear c18
        try clear c18b0
        try clear c18b1
        try clear c18b2
        try clear c23
        try clear c23b0
        try clear c23b1
        try clear c24
        try clear c24b0
        try clear c24b1
        try clear c24b2
        try clear c31
        try clear hcz16_0
        try clear hcz16_1
        try clear hcz16_2
        try clear hcz16_3
        try clear hcz16_4
        try clear hcz20_0
        try clear hcz20_1
        try clear hcz20_2
        try clear hcz20_3
        try clear hcz20_4
        try clear hcz21_0
        try clear hcz21_1
        try clear hcz21_2
        try clear hcz21_3
        try clear hcz21_4
        try clear hcz22_0
        try clear hcz22_1
        try clear hcz22_2
        try clear hcz22_3
        try clear hcz22_4
        try clear hcz26_0
        try clear hcz26_1
        try clear hcz26_2
        try clear hcz26_3
        try clear hcz26_4
        try clear hcz27_0
        try clear hcz27_1
        try clear hcz27_2
        try clear hcz27_3
        try clear hcz27_4
        try clear hcz28_0
        try clear hcz28_1
        try clear hcz28_2
        try clear hcz28_3
        try clear hcz28_4
        try clear hcz29_0
        try clear hcz29_1
        try clear hcz29_2
        try clear hcz29_3
        try clear hcz29_4
        try clear hcz30_0
        try clear hcz30_1
        try clear hcz30_2
        try clear hcz30_3
        try clear hcz30_4
        try clear hcz5_0
        try clear hcz5_1
        try clear hcz5_2
        try clear hcz5_3
        try clear hcz5_4
        try clear hcz6_0
        try clear hcz6_1
        try clear hcz6_2
        try clear hcz6_3
        try clear hcz6_4
        try clear hcz9_0
        try clear hcz9_1
        try clear hcz9_2
        try clear hcz9_3
        try clear hcz9_4
        try clear hfz16_0
        try clear hfz16_1
        try clear hfz16_2
        try clear hfz16_3
        try clear hfz16_4
        try clear hfz20_0
        try clear hfz20_1
        try clear hfz20_2
        try clear hfz20_3
        try clear hfz20_4
        try clear hfz21_0
        try clear hfz21_1
        try clear hfz21_2
        try clear hfz21_3
        try clear hfz21_4
        try clear hfz22_0
        try clear hfz22_1
        try clear hfz22_2
        try clear hfz22_3
        try clear hfz22_4
        try clear hfz26_0
        try clear hfz26_1
        try clear hfz26_2
        try clear hfz26_3
        try clear hfz26_4
        try clear hfz27_0
        try clear hfz27_1
        try clear hfz27_2
        try clear hfz27_3
        try clear hfz27_4
        try clear hfz28_0
        try clear hfz28_1
        try clear hfz28_2
        try clear hfz28_3
        try clear hfz28_4
        try clear hfz29_0
        try clear hfz29_1
        try clear hfz29_2
        try clear hfz29_3
        try clear hfz29_4
        try clear hfz30_0
        try clear hfz30_1
        try clear hfz30_2
        try clear hfz30_3
        try clear hfz30_4
        try clear hfz5_0
        try clear hfz5_1
        try clear hfz5_2
        try clear hfz5_3
        try clear hfz5_4
        try clear hfz6_0
        try clear hfz6_1
        try clear hfz6_2
        try clear hfz6_3
        try clear hfz6_4
        try clear hfz9_0
        try clear hfz9_1
        try clear hfz9_2
        try clear hfz9_3
        try clear hfz9_4
        try clear p2
        obtain ⟨x3_3,rfl,HA,HK3,BK122,HB⟩:=hrel
        cases gk with
        |zero=>exact absurd HA.out (by simp [spec_l3Right.l0])
        |succ k3 =>
         have H:=HA.out
         clear HA
         simp only [spec_l3Right.l0] at H
         by_cases c32:x3_3<(l0_4.length:Int)
         ·rw [if_pos c32] at H
          have c32b0:decide (x3_3<(l0_4.length:Int))=true:=decide_eq_true c32
          clear c32
          by_cases c33:0≤x3_3
          ·rw [if_pos c33] at H
           have c33b0:decide (0≤x3_3)=true:=decide_eq_true c33
           clear c33
           replace H:=Option.bind_eq_some_iff.mp H
           obtain ⟨t127,A340,H⟩:=H
           replace H:(if t127=true then (spec_l3Right.l0 k3 (wrap64 (x3_3+1)) a0_0 a0_1 a0_2 l0_3 l0_4) else (some false))=some r:=H
           have A34:=Aside0.mk A340
           clear A340
           have HC35:=Aside0.mk H
           clear H
           have hcz36_0:wr.cell? ⟨gb122,0,none⟩=some (.int .i64 a0_0):=(blk_cell BK122.out 0).trans rfl
           have hcz36_1:wr.cell? ⟨gb122,1,none⟩=some (.int .i64 a0_1):=(blk_cell BK122.out 1).trans rfl
           have hcz36_2:wr.cell? ⟨gb122,2,none⟩=some (.string a0_2):=(blk_cell BK122.out 2).trans rfl
           have hcz36_3:wr.cell? ⟨gb122,3,none⟩=some (.slice A0_3 l0_3.length c0_3):=(blk_cell BK122.out 3).trans rfl
           have hcz36_4:wr.cell? ⟨gb122,4,none⟩=some (.slice A0_4 l0_4.length c0_4):=(blk_cell BK122.out 4).trans rfl
           have hfz36_0:=blk_frozen BK122.out 0
           have hfz36_1:=blk_frozen BK122.out 1
           have hfz36_2:=blk_frozen BK122.out 2
           have hfz36_3:=blk_frozen BK122.out 3
           have hfz36_4:=blk_frozen BK122.out 4
           have p126:0≤(x3_3:Int):=of_decide_eq_true (by first|(with_reducible assumption)|assumption)
           have q126:x3_3<(l0_4.length:Int):=of_decide_eq_true (by first|(with_reducible assumption)|assumption)
           obtain ⟨ad126,A126_3,c126_3,A126_4,c126_4,e126,hx126_0,hx126_1,hx126_2,hx126_3,hx126_4,hl126_3,hi126_3,hl126_4,hi126_4⟩:=at_T33 HR0_4.out x3_3 p126 q126
           cases e126
           replace hx126_0:=(HB.out.cell (World.block_lt_of_cell? w _ hx126_0)).trans hx126_0
           replace hx126_1:=(HB.out.cell (World.block_lt_of_cell? w _ hx126_1)).trans hx126_1
           replace hx126_2:=(HB.out.cell (World.block_lt_of_cell? w _ hx126_2)).trans hx126_2
           replace hx126_3:=(HB.out.cell (World.block_lt_of_cell? w _ hx126_3)).trans hx126_3
           replace hx126_4:=(HB.out.cell (World.block_lt_of_cell? w _ hx126_4)).trans hx126_4
           have HR126_3:=Aside0.mk hi126_3
           have HC126_3:=Aside0.mk hl126_3
           clear hi126_3 hl126_3
           have HR126_4:=Aside0.mk hi126_4
           have HC126_4:=Aside0.mk hl126_4
           clear hi126_4 hl126_4
           replace p126:=eq_true p126
           replace q126:=eq_true q126
           go_upto_if 66 with (first|((with_reducible refine gate_callee (f:=59) rfl ?_); refine goesL_ (some 65) rfl rfl Try.func59 (by kernel_rfl) rfl #[.agg #[.int .i64 ((rd_T33 l0_4 x3_3).f0),.int .i64 ((rd_T33 l0_4 x3_3).f1),.string ((rd_T33 l0_4 x3_3).f2),.slice A126_3 ((rd_T33 l0_4 x3_3).f3).length c126_3,.slice A126_4 ((rd_T33 l0_4 x3_3).f4).length c126_4]] rfl (by (try simp only [List.map_toArray,List.map_cons,List.map_nil]); first|done|rfl|(simp only [List.length_drop,List.length_take]; rfl)) ?_; (with_reducible refine (ih k3 (by have:=HJ1.out; have:=HJ10.out; have:=HK3.out; omega) ((rd_T33 l0_4 x3_3).f0) ((rd_T33 l0_4 x3_3).f1) ((rd_T33 l0_4 x3_3).f2) _ _ ((rd_T33 l0_4 x3_3).f3) _ _ ((rd_T33 l0_4 x3_3).f4) t127 _ ?side1 ?side2 ?side3 ?side4 A34.out).mono ?_); (case side1=>repeat (first|exact (Kd.C_below HR126_3.out HB.out)|(with_reducible refine Kd.C_alloc ?_ _)|(with_reducible refine Kd.C_drewN ?_ _)|(with_reducible refine Kd.C_drew ?_))); (case side2=>exact HC126_3.out); (case side3=>repeat (first|exact (Kd.C_below HR126_4.out HB.out)|(with_reducible refine Kd.C_alloc ?_ _)|(with_reducible refine Kd.C_drewN ?_ _)|(with_reducible refine Kd.C_drew ?_))); (case side4=>exact HC126_4.out); rintro e w37 ⟨rfl,hb⟩; refine ⟨_,rfl,?_⟩; have n0_:=Aside0.mk (blk_below (g:=gb122) (o:=.cells #[.int .i64 a0_0,.int .i64 a0_1,.string a0_2,.slice A0_3 l0_3.length c0_3,.slice (some ad126) l0_4.length c0_4] 33 (0,0)) (by (with_reducible repeat (first|refine blk_drewN ?_ _|refine blk_drew ?_|refine blk_alloc ?_ _)); exact BK122.out) hb); have n1_:=Aside0.mk (below_step (by repeat (first|(with_reducible first|exact HB.out|apply below_alloc|apply pw_below_drewN|apply below_drew1|refine below_set ?_ GE122.out)|exact HB.out)) hb); clear BK122; clear HB; have BK122:=n0_; have HB:=n1_; clear n0_ n1_; (try clear hb); (try clear hb2); (try clear hk); (try clear hi)))
           (try simp only [Act.put,List.setIfInBounds_toArray,List.set_cons_zero,List.set_cons_succ])
           try clear hx126_0; try clear hx126_1; try clear hx126_2; try clear hx126_3; try clear hx126_4
           have H:=HC35.out
           clear HC35
           by_cases c38:t127=true
           ·subst c38
            have H1:(spec_l3Right.l0 k3 (wrap64 (x3_3+1)) a0_0 a0_1 a0_2 l0_3 l0_4)=some r:=by rw [if_pos rfl] at H; exact H
            clear H
            have H:=H1
            clear H1
            have H':=Aside0.mk H
            clear H
            go_wp2
            go_roundg k3
            case measure=>have:=HJ1.out; have:=HJ10.out; have:=HK3.out; omega
            case rel=>exact ⟨(wrap64 (x3_3+1)),(by first|rfl|(simp; done)|(simp [*]; done)),H',⟨by have:=HJ1.out; have:=HJ10.out; have:=HK3.out; omega⟩,⟨by (with_reducible repeat (first|refine blk_drewN ?_ _|refine blk_drew ?_|refine blk_alloc ?_ _)); exact BK122.out⟩,⟨by repeat (first|(with_reducible first|exact HB.out|apply below_alloc|apply pw_below_drewN|apply below_drew1|refine below_set ?_ GE122.out)|exact HB.out)⟩⟩
           ·replace c38:=Bool.eq_false_iff.mpr c38
            subst c38
            have H1:(some false)=some r:=by rw [if_neg (show ¬ (false=true) by decide)] at H; exact H
            clear H
            have H:=H1
            clear H1
            obtain rfl:=Option.some.inj H
            go_wp2
            go_ret
            exact ⟨by first|rfl|(simp [errW_none,errW_some]<;>rfl)|(simp [*,errW_none,errW_some]<;>rfl),by repeat (first|(with_reducible first|exact HB.out|apply below_alloc|apply pw_below_drewN|apply below_drew1|refine below_set ?_ GE122.out)|exact HB.out)⟩
          ·rw [if_neg c33] at H
           exact absurd H (by simp)
         ·rw [if_neg c32] at H
          have c32b0:decide (x3_3<(l0_4.length:Int))=false:=decide_eq_false c32
          clear c32
          obtain rfl:=Option.some.inj H
          have hcz39_0:wr.cell? ⟨gb122,0,none⟩=some (.int .i64 a0_0):=(blk_cell BK122.out 0).trans rfl
          have hcz39_1:wr.cell? ⟨gb122,1,none⟩=some (.int .i64 a0_1):=(blk_cell BK122.out 1).trans rfl
          have hcz39_2:wr.cell? ⟨gb122,2,none⟩=some (.string a0_2):=(blk_cell BK122.out 2).trans rfl
          have hcz39_3:wr.cell? ⟨gb122,3,none⟩=some (.slice A0_3 l0_3.length c0_3):=(blk_cell BK122.out 3).trans rfl
          have hcz39_4:wr.cell? ⟨gb122,4,none⟩=some (.slice A0_4 l0_4.length c0_4):=(blk_cell BK122.out 4).trans rfl
          have hfz39_0:=blk_frozen BK122.out 0
          have hfz39_1:=blk_frozen BK122.out 1
          have hfz39_2:=blk_frozen BK122.out 2
          have hfz39_3:=blk_frozen BK122.out 3
          have hfz39_4:=blk_frozen BK122.out 4
          go_wp2
          go_ret
          exact ⟨by first|rfl|(simp [errW_none,errW_some]<;>rfl)|(simp [*,errW_none,errW_some]<;>rfl),by repeat (first|(with_reducible first|exact HB.out|apply below_alloc|apply pw_below_drewN|apply below_drew1|refine below_set ?_ GE122.out)|exact HB.out)⟩
def spec_TreeOk.f (k:Nat) (a0_0:Int) (a0_1:Int) (a0_2:ByteArray) (l0_3:List ByteArray) (l0_4:List (S33)):Option (Bool):=(spec_l3Deep.f k a0_0 a0_1 a0_2 l0_3 l0_4).bind fun t129=>(if t129≤8 then ((spec_l3Size.f k a0_0 a0_1 a0_2 l0_3 l0_4).bind fun t130=>(if t130≤200 then ((spec_l3Right.f k a0_0 a0_1 a0_2 l0_3 l0_4).bind fun t131=>(some t131)) else (some false))) else (some false))
theorem spec_TreeOk.mono:∀ a0 a1 a2 a3 a4 k,LeO (spec_TreeOk.f k a0 a1 a2 a3 a4) (spec_TreeOk.f (k+1) a0 a1 a2 a3 a4):=by
 intro a0 a1 a2 a3 a4 k
 unfold spec_TreeOk.f
 repeat' first
   |(with_reducible exact spec_l3Deep.mono _ _ _ _ _ _)
   |(with_reducible exact spec_l3Right.mono _ _ _ _ _ _)
   |(with_reducible exact spec_l3Size.mono _ _ _ _ _ _)
   |(with_reducible exact LeO.refl _)
   |(with_reducible exact LeO.none _)
   |(with_reducible refine LeO.ite ?_ ?_)
   |(with_reducible refine LeO.bind ?_ (fun _=>?_))
   |exact spec_l3Deep.mono _ _ _ _ _ _
   |exact spec_l3Right.mono _ _ _ _ _ _
   |exact spec_l3Size.mono _ _ _ _ _ _
   |exact LeO.none _
   |refine LeO.ite ?_ ?_
   |refine LeO.bind ?_ (fun _=>?_)
set_option maxHeartbeats 8000000 in
set_option maxRecDepth 100000 in
theorem spec_TreeOk.calls (k:Nat) (a0_0:Int) (a0_1:Int) (a0_2:ByteArray) (A0_3:Option Addr) (c0_3:Nat) (l0_3:List ByteArray) (A0_4:Option Addr) (c0_4:Nat) (l0_4:List (S33)) (r:Bool) (w:World) (hr0_3:Kd.C Kd.string w A0_3 l0_3.length l0_3) (hc0_3:l0_3.length≤c0_3) (hr0_4:Kd.C k33 w A0_4 l0_4.length l0_4) (hc0_4:l0_4.length≤c0_4) (h:spec_TreeOk.f k a0_0 a0_1 a0_2 l0_3 l0_4=some r) :
  Calls Try.prog 35 #[.agg #[.int .i64 a0_0,.int .i64 a0_1,.string a0_2,.slice A0_3 l0_3.length c0_3,.slice A0_4 l0_4.length c0_4]] w fun e w'=>e=.returned (.bool r)∧Below w.heap.size w w':=by
 have hu33:=Try.underlying33
 have HR0_3:=Aside0.mk hr0_3
 have HC0_3:=Aside0.mk hc0_3
 clear hr0_3 hc0_3
 have HR0_4:=Aside0.mk hr0_4
 have HC0_4:=Aside0.mk hc0_4
 clear hr0_4 hc0_4
 have HB:=Aside0.mk (Below.refl w.heap.size w)
 have H:((spec_l3Deep.f k a0_0 a0_1 a0_2 l0_3 l0_4).bind fun t129=>(if t129≤8 then ((spec_l3Size.f k a0_0 a0_1 a0_2 l0_3 l0_4).bind fun t130=>(if t130≤200 then ((spec_l3Right.f k a0_0 a0_1 a0_2 l0_3 l0_4).bind fun t131=>(some t131)) else (some false))) else (some false)))=some r:=h
 clear h
 replace H:=Option.bind_eq_some_iff.mp H
 obtain ⟨t129,A20,H⟩:=H
 replace H:(if t129≤8 then ((spec_l3Size.f k a0_0 a0_1 a0_2 l0_3 l0_4).bind fun t130=>(if t130≤200 then ((spec_l3Right.f k a0_0 a0_1 a0_2 l0_3 l0_4).bind fun t131=>(some t131)) else (some false))) else (some false))=some r:=H
 have A2:=Aside0.mk A20
 clear A20
 by_cases c3:t129≤8
 ·rw [if_pos c3] at H
  have c3b0:decide (t129≤8)=true:=decide_eq_true c3
  clear c3
  replace H:=Option.bind_eq_some_iff.mp H
  obtain ⟨t130,A40,H⟩:=H
  replace H:(if t130≤200 then ((spec_l3Right.f k a0_0 a0_1 a0_2 l0_3 l0_4).bind fun t131=>(some t131)) else (some false))=some r:=H
  have A4:=Aside0.mk A40
  clear A40
  by_cases c5:t130≤200
  ·rw [if_pos c5] at H
   have c5b0:decide (t130≤200)=true:=decide_eq_true c5
   clear c5
   replace H:=Option.bind_eq_some_iff.mp H
   obtain ⟨t131,A60,H⟩:=H
   replace H:(some t131)=some r:=H
   have A6:=Aside0.mk A60
   clear A60
   obtain rfl:=Option.some.inj H
   go_enter Try.func35,Try.ntmps35
   go_wp2_with (first|((with_reducible refine gate_dst (N:=1) rfl ?_); refine box_event ?hg (N:=1) ?hd (cs:=#[.int .i64 a0_0,.int .i64 a0_1,.string a0_2,.slice A0_3 l0_3.length c0_3,.slice A0_4 l0_4.length c0_4]) (t:=33) ?hr ?_; (case hd=>rfl); (case hg=>rfl); (case hr=>first|(go_simp; done)|(go_simp; rfl)); intro gb128 hg w7 hbox hb; have n0_:=Aside0.mk (below_step (by repeat (first|(with_reducible first|exact HB.out|apply below_alloc|apply pw_below_drewN|apply below_drew1)|exact HB.out)) hb); have n1_:=Aside0.mk (hbox); have n2_:=Aside0.mk ((by rw [hg]; exact (below_size (by repeat (first|(with_reducible first|exact HB.out|apply below_alloc|apply pw_below_drewN|apply below_drew1)|exact HB.out))):w.heap.size≤gb128)); have n3_:=Aside0.mk ((by rw [hg]; exact (below_size (by repeat (first|(with_reducible first|exact HB.out|apply below_alloc|apply pw_below_drewN|apply below_drew1)|exact HB.out))):w.heap.size≤gb128)); clear HB; have HB:=n0_; have BK128:=n1_; have GW128:=n2_; have GE128:=n3_; clear n0_ n1_ n2_ n3_; clear hb hbox hg; have hcz8_0:w7.cell? ⟨gb128,0,none⟩=some (.int .i64 a0_0):=(blk_cell BK128.out 0).trans rfl; have hcz8_1:w7.cell? ⟨gb128,1,none⟩=some (.int .i64 a0_1):=(blk_cell BK128.out 1).trans rfl; have hcz8_2:w7.cell? ⟨gb128,2,none⟩=some (.string a0_2):=(blk_cell BK128.out 2).trans rfl; have hcz8_3:w7.cell? ⟨gb128,3,none⟩=some (.slice A0_3 l0_3.length c0_3):=(blk_cell BK128.out 3).trans rfl; have hcz8_4:w7.cell? ⟨gb128,4,none⟩=some (.slice A0_4 l0_4.length c0_4):=(blk_cell BK128.out 4).trans rfl; have hfz8_0:=blk_frozen BK128.out 0; have hfz8_1:=blk_frozen BK128.out 1; have hfz8_2:=blk_frozen BK128.out 2; have hfz8_3:=blk_frozen BK128.out 3; have hfz8_4:=blk_frozen BK128.out 4)|((with_reducible refine gate_callee (f:=57) rfl ?_); refine goesL_ (some 4) rfl rfl Try.func57 (by kernel_rfl) rfl #[.agg #[.int .i64 a0_0,.int .i64 a0_1,.string a0_2,.slice A0_3 l0_3.length c0_3,.slice A0_4 l0_4.length c0_4]] rfl (by (try simp only [List.map_toArray,List.map_cons,List.map_nil]); first|done|rfl|(simp only [List.length_drop,List.length_take]; rfl)) ?_; (with_reducible refine (spec_l3Deep.calls k a0_0 a0_1 a0_2 _ _ l0_3 _ _ l0_4 t129 _ ?side1 ?side2 ?side3 ?side4 A2.out).mono ?_); (case side1=>repeat (first|exact (Kd.C_below HR0_3.out HB.out)|(with_reducible refine Kd.C_alloc ?_ _)|(with_reducible refine Kd.C_drewN ?_ _)|(with_reducible refine Kd.C_drew ?_))); (case side2=>exact HC0_3.out); (case side3=>repeat (first|exact (Kd.C_below HR0_4.out HB.out)|(with_reducible refine Kd.C_alloc ?_ _)|(with_reducible refine Kd.C_drewN ?_ _)|(with_reducible refine Kd.C_drew ?_))); (case side4=>exact HC0_4.out); rintro e w9 ⟨rfl,hb⟩; refine ⟨_,rfl,?_⟩; have n0_:=Aside0.mk (blk_below (g:=gb128) (o:=.cells #[.int .i64 a0_0,.int .i64 a0_1,.string a0_2,.slice A0_3 l0_3.length c0_3,.slice A0_4 l0_4.length c0_4] 33 (0,0)) (by (with_reducible repeat (first|refine blk_drewN ?_ _|refine blk_drew ?_|refine blk_alloc ?_ _)); exact BK128.out) hb); have n1_:=Aside0.mk (below_step (by repeat (first|(with_reducible first|exact HB.out|apply below_alloc|apply pw_below_drewN|apply below_drew1|refine below_set ?_ GE128.out)|exact HB.out)) hb); clear BK128; clear HB; have BK128:=n0_; have HB:=n1_; clear n0_ n1_; (try clear hb); (try clear hb2); (try clear hk); (try clear hi); have hcz10_0:w9.cell? ⟨gb128,0,none⟩=some (.int .i64 a0_0):=(blk_cell BK128.out 0).trans rfl; have hcz10_1:w9.cell? ⟨gb128,1,none⟩=some (.int .i64 a0_1):=(blk_cell BK128.out 1).trans rfl; have hcz10_2:w9.cell? ⟨gb128,2,none⟩=some (.string a0_2):=(blk_cell BK128.out 2).trans rfl; have hcz10_3:w9.cell? ⟨gb128,3,none⟩=some (.slice A0_3 l0_3.length c0_3):=(blk_cell BK128.out 3).trans rfl; have hcz10_4:w9.cell? ⟨gb128,4,none⟩=some (.slice A0_4 l0_4.length c0_4):=(blk_cell BK128.out 4).trans rfl; have hfz10_0:=blk_frozen BK128.out 0; have hfz10_1:=blk_frozen BK128.out 1; have hfz10_2:=blk_frozen BK128.out 2; have hfz10_3:=blk_frozen BK128.out 3; have hfz10_4:=blk_frozen BK128.out 4)|(go_at_call 58; (with_reducible refine (spec_l3Size.calls k a0_0 a0_1 a0_2 _ _ l0_3 _ _ l0_4 t130 _ ?side1 ?side2 ?side3 ?side4 A4.out).mono ?_); (case side1=>repeat (first|exact (Kd.C_below HR0_3.out HB.out)|(with_reducible refine Kd.C_alloc ?_ _)|(with_reducible refine Kd.C_drewN ?_ _)|(with_reducible refine Kd.C_drew ?_))); (case side2=>exact HC0_3.out); (case side3=>repeat (first|exact (Kd.C_below HR0_4.out HB.out)|(with_reducible refine Kd.C_alloc ?_ _)|(with_reducible refine Kd.C_drewN ?_ _)|(with_reducible refine Kd.C_drew ?_))); (case side4=>exact HC0_4.out); rintro e w11 ⟨rfl,hb⟩; have n0_:=Aside0.mk (blk_below (g:=gb128) (o:=.cells #[.int .i64 a0_0,.int .i64 a0_1,.string a0_2,.slice A0_3 l0_3.length c0_3,.slice A0_4 l0_4.length c0_4] 33 (0,0)) (by (with_reducible repeat (first|refine blk_drewN ?_ _|refine blk_drew ?_|refine blk_alloc ?_ _)); exact BK128.out) hb); have n1_:=Aside0.mk (below_step (by repeat (first|(with_reducible first|exact HB.out|apply below_alloc|apply pw_below_drewN|apply below_drew1|refine below_set ?_ GE128.out)|exact HB.out)) hb); clear BK128; clear HB; have BK128:=n0_; have HB:=n1_; clear n0_ n1_; (try clear hb); (try clear hb2); (try clear hk); (try clear hi); have hcz12_0:w11.cell? ⟨gb128,0,none⟩=some (.int .i64 a0_0):=(blk_cell BK128.out 0).trans rfl; have hcz12_1:w11.cell? ⟨gb128,1,none⟩=some (.int .i64 a0_1):=(blk_cell BK128.out 1).trans rfl; have hcz12_2:w11.cell? ⟨gb128,2,none⟩=some (.string a0_2):=(blk_cell BK128.out 2).trans rfl; have hcz12_3:w11.cell? ⟨gb128,3,none⟩=some (.slice A0_3 l0_3.length c0_3):=(blk_cell BK128.out 3).trans rfl; have hcz12_4:w11.cell? ⟨gb128,4,none⟩=some (.slice A0_4 l0_4.length c0_4):=(blk_cell BK128.out 4).trans rfl; have hfz12_0:=blk_frozen BK128.out 0; have hfz12_1:=blk_frozen BK128.out 1; have hfz12_2:=blk_frozen BK128.out 2; have hfz12_3:=blk_frozen BK128.out 3; have hfz12_4:=blk_frozen BK128.out 4)|(go_at_call 59; (with_reducible refine (spec_l3Right.calls k a0_0 a0_1 a0_2 _ _ l0_3 _ _ l0_4 t131 _ ?side1 ?side2 ?side3 ?side4 A6.out).mono ?_); (case side1=>repeat (first|exact (Kd.C_below HR0_3.out HB.out)|(with_reducible refine Kd.C_alloc ?_ _)|(with_reducible refine Kd.C_drewN ?_ _)|(with_reducible refine Kd.C_drew ?_))); (case side2=>exact HC0_3.out); (case side3=>repeat (first|exact (Kd.C_below HR0_4.out HB.out)|(with_reducible refine Kd.C_alloc ?_ _)|(with_reducible refine Kd.C_drewN ?_ _)|(with_reducible refine Kd.C_drew ?_))); (case side4=>exact HC0_4.out); rintro e w13 ⟨rfl,hb⟩; have n0_:=Aside0.mk (blk_below (g:=gb128) (o:=.cells #[.int .i64 a0_0,.int .i64 a0_1,.string a0_2,.slice A0_3 l0_3.length c0_3,.slice A0_4 l0_4.length c0_4] 33 (0,0)) (by (with_reducible repeat (first|refine blk_drewN ?_ _|refine blk_drew ?_|refine blk_alloc ?_ _)); exact BK128.out) hb); have n1_:=Aside0.mk (below_step (by repeat (first|(with_reducible first|exact HB.out|apply below_alloc|apply pw_below_drewN|apply below_drew1|refine below_set ?_ GE128.out)|exact HB.out)) hb); clear BK128; clear HB; have BK128:=n0_; have HB:=n1_; clear n0_ n1_; (try clear hb); (try clear hb2); (try clear hk); (try clear hi)))
   go_ret
   exact ⟨by first|rfl|(simp [errW_none,errW_some]<;>rfl)|(simp [*,errW_none,errW_some]<;>rfl),by repeat (first|(with_reducible first|exact HB.out|apply below_alloc|apply pw_below_drewN|apply below_drew1|refine below_set ?_ GE128.out)|exact HB.out)⟩
  ·rw [if_neg c5] at H
   have c5b0:decide (t130≤200)=false:=decide_eq_false c5
   clear c5
   obtain rfl:=Option.some.inj H
   go_enter Try.func35,Try.ntmps35
   go_wp2_with (first|((with_reducible refine gate_dst (N:=1) rfl ?_); refine box_event ?hg (N:=1) ?hd (cs:=#[.int .i64 a0_0,.int .i64 a0_1,.string a0_2,.slice A0_3 l0_3.length c0_3,.slice A0_4 l0_4.length c0_4]) (t:=33) ?hr ?_; (case hd=>rfl); (case hg=>rfl); (case hr=>first|(go_simp; done)|(go_simp; rfl)); intro gb128 hg w14 hbox hb; have n0_:=Aside0.mk (below_step (by repeat (first|(with_reducible first|exact HB.out|apply below_alloc|apply pw_below_drewN|apply below_drew1)|exact HB.out)) hb); have n1_:=Aside0.mk (hbox); have n2_:=Aside0.mk ((by rw [hg]; exact (below_size (by repeat (first|(with_reducible first|exact HB.out|apply below_alloc|apply pw_below_drewN|apply below_drew1)|exact HB.out))):w.heap.size≤gb128)); have n3_:=Aside0.mk ((by rw [hg]; exact (below_size (by repeat (first|(with_reducible first|exact HB.out|apply below_alloc|apply pw_below_drewN|apply below_drew1)|exact HB.out))):w.heap.size≤gb128)); clear HB; have HB:=n0_; have BK128:=n1_; have GW128:=n2_; have GE128:=n3_; clear n0_ n1_ n2_ n3_; clear hb hbox hg; have hcz15_0:w14.cell? ⟨gb128,0,none⟩=some (.int .i64 a0_0):=(blk_cell BK128.out 0).trans rfl; have hcz15_1:w14.cell? ⟨gb128,1,none⟩=some (.int .i64 a0_1):=(blk_cell BK128.out 1).trans rfl; have hcz15_2:w14.cell? ⟨gb128,2,none⟩=some (.string a0_2):=(blk_cell BK128.out 2).trans rfl; have hcz15_3:w14.cell? ⟨gb128,3,none⟩=some (.slice A0_3 l0_3.length c0_3):=(blk_cell BK128.out 3).trans rfl; have hcz15_4:w14.cell? ⟨gb128,4,none⟩=some (.slice A0_4 l0_4.length c0_4):=(blk_cell BK128.out 4).trans rfl; have hfz15_0:=blk_frozen BK128.out 0; have hfz15_1:=blk_frozen BK128.out 1; have hfz15_2:=blk_frozen BK128.out 2; have hfz15_3:=blk_frozen BK128.out 3; have hfz15_4:=blk_frozen BK128.out 4)|((with_reducible refine gate_callee (f:=57) rfl ?_); refine goesL_ (some 4) rfl rfl Try.func57 (by kernel_rfl) rfl #[.agg #[.int .i64 a0_0,.int .i64 a0_1,.string a0_2,.slice A0_3 l0_3.length c0_3,.slice A0_4 l0_4.length c0_4]] rfl (by (try simp only [List.map_toArray,List.map_cons,List.map_nil]); first|done|rfl|(simp only [List.length_drop,List.length_take]; rfl)) ?_; (with_reducible refine (spec_l3Deep.calls k a0_0 a0_1 a0_2 _ _ l0_3 _ _ l0_4 t129 _ ?side1 ?side2 ?side3 ?side4 A2.out).mono ?_); (case side1=>repeat (first|exact (Kd.C_below HR0_3.out HB.out)|(with_reducible refine Kd.C_alloc ?_ _)|(with_reducible refine Kd.C_drewN ?_ _)|(with_reducible refine Kd.C_drew ?_))); (case side2=>exact HC0_3.out); (case side3=>repeat (first|exact (Kd.C_below HR0_4.out HB.out)|(with_reducible refine Kd.C_alloc ?_ _)|(with_reducible refine Kd.C_drewN ?_ _)|(with_reducible refine Kd.C_drew ?_))); (case side4=>exact HC0_4.out); rintro e w16 ⟨rfl,hb⟩; refine ⟨_,rfl,?_⟩; have n0_:=Aside0.mk (blk_below (g:=gb128) (o:=.cells #[.int .i64 a0_0,.int .i64 a0_1,.string a0_2,.slice A0_3 l0_3.length c0_3,.slice A0_4 l0_4.length c0_4] 33 (0,0)) (by (with_reducible repeat (first|refine blk_drewN ?_ _|refine blk_drew ?_|refine blk_alloc ?_ _)); exact BK128.out) hb); have n1_:=Aside0.mk (below_step (by repeat (first|(with_reducible first|exact HB.out|apply below_alloc|apply pw_below_drewN|apply below_drew1|refine below_set ?_ GE128.out)|exact HB.out)) hb); clear BK128; clear HB; have BK128:=n0_; have HB:=n1_; clear n0_ n1_; (try clear hb); (try clear hb2); (try clear hk); (try clear hi); have hcz17_0:w16.cell? ⟨gb128,0,none⟩=some (.int .i64 a0_0):=(blk_cell BK128.out 0).trans rfl; have hcz17_1:w16.cell? ⟨gb128,1,none⟩=some (.int .i64 a0_1):=(blk_cell BK128.out 1).trans rfl; have hcz17_2:w16.cell? ⟨gb128,2,none⟩=some (.string a0_2):=(blk_cell BK128.out 2).trans rfl; have hcz17_3:w16.cell? ⟨gb128,3,none⟩=some (.slice A0_3 l0_3.length c0_3):=(blk_cell BK128.out 3).trans rfl; have hcz17_4:w16.cell? ⟨gb128,4,none⟩=some (.slice A0_4 l0_4.length c0_4):=(blk_cell BK128.out 4).trans rfl; have hfz17_0:=blk_frozen BK128.out 0; have hfz17_1:=blk_frozen BK128.out 1; have hfz17_2:=blk_frozen BK128.out 2; have hfz17_3:=blk_frozen BK128.out 3; have hfz17_4:=blk_frozen BK128.out 4)|(go_at_call 58; (with_reducible refine (spec_l3Size.calls k a0_0 a0_1 a0_2 _ _ l0_3 _ _ l0_4 t130 _ ?side1 ?side2 ?side3 ?side4 A4.out).mono ?_); (case side1=>repeat (first|exact (Kd.C_below HR0_3.out HB.out)|(with_reducible refine Kd.C_alloc ?_ _)|(with_reducible refine Kd.C_drewN ?_ _)|(with_reducible refine Kd.C_drew ?_))); (case side2=>exact HC0_3.out); (case side3=>repeat (first|exact (Kd.C_below HR0_4.out HB.out)|(with_reducible refine Kd.C_alloc ?_ _)|(with_reducible refine Kd.C_drewN ?_ _)|(with_reducible refine Kd.C_drew ?_))); (case side4=>exact HC0_4.out); rintro e w18 ⟨rfl,hb⟩; have n0_:=Aside0.mk (blk_below (g:=gb128) (o:=.cells #[.int .i64 a0_0,.int .i64 a0_1,.string a0_2,.slice A0_3 l0_3.length c0_3,.slice A0_4 l0_4.length c0_4] 33 (0,0)) (by (with_reducible repeat (first|refine blk_drewN ?_ _|refine blk_drew ?_|refine blk_alloc ?_ _)); exact BK128.out) hb); have n1_:=Aside0.mk (below_step (by repeat (first|(with_reducible first|exact HB.out|apply below_alloc|apply pw_below_drewN|apply below_drew1|refine below_set ?_ GE128.out)|exact HB.out)) hb); clear BK128; clear HB; have BK128:=n0_; have HB:=n1_; clear n0_ n1_; (try clear hb); (try clear hb2); (try clear hk); (try clear hi)))
   go_ret
   exact ⟨by first|rfl|(simp [errW_none,errW_some]<;>rfl)|(simp [*,errW_none,errW_some]<;>rfl),by repeat (first|(with_reducible first|exact HB.out|apply below_alloc|apply pw_below_drewN|apply below_drew1|refine below_set ?_ GE128.out)|exact HB.out)⟩
 ·rw [if_neg c3] at H
  have c3b0:decide (t129≤8)=false:=decide_eq_false c3
  clear c3
  obtain rfl:=Option.some.inj H
  go_enter Try.func35,Try.ntmps35
  go_wp2_with (first|((with_reducible refine gate_dst (N:=1) rfl ?_); refine box_event ?hg (N:=1) ?hd (cs:=#[.int .i64 a0_0,.int .i64 a0_1,.string a0_2,.slice A0_3 l0_3.length c0_3,.slice A0_4 l0_4.length c0_4]) (t:=33) ?hr ?_; (case hd=>rfl); (case hg=>rfl); (case hr=>first|(go_simp; done)|(go_simp; rfl)); intro gb128 hg w19 hbox hb; have n0_:=Aside0.mk (below_step (by repeat (first|(with_reducible first|exact HB.out|apply below_alloc|apply pw_below_drewN|apply below_drew1)|exact HB.out)) hb); have n1_:=Aside0.mk (hbox); have n2_:=Aside0.mk ((by rw [hg]; exact (below_size (by repeat (first|(with_reducible first|exact HB.out|apply below_alloc|apply pw_below_drewN|apply below_drew1)|exact HB.out))):w.heap.size≤gb128)); have n3_:=Aside0.mk ((by rw [hg]; exact (below_size (by repeat (first|(with_reducible first|exact HB.out|apply below_alloc|apply pw_below_drewN|apply below_drew1)|exact HB.out))):w.heap.size≤gb128)); clear HB; have HB:=n0_; have BK128:=n1_; have GW128:=n2_; have GE128:=n3_; clear n0_ n1_ n2_ n3_; clear hb hbox hg; have hcz20_0:w19.cell? ⟨gb128,0,none⟩=some (.int .i64 a0_0):=(blk_cell BK128.out 0).trans rfl; have hcz20_1:w19.cell? ⟨gb128,1,none⟩=some (.int .i64 a0_1):=(blk_cell BK128.out 1).trans rfl; have hcz20_2:w19.cell? ⟨gb128,2,none⟩=some (.string a0_2):=(blk_cell BK128.out 2).trans rfl; have hcz20_3:w19.cell? ⟨gb128,3,none⟩=some (.slice A0_3 l0_3.length c0_3):=(blk_cell BK128.out 3).trans rfl; have hcz20_4:w19.cell? ⟨gb128,4,none⟩=some (.slice A0_4 l0_4.length c0_4):=(blk_cell BK128.out 4).trans rfl; have hfz20_0:=blk_frozen BK128.out 0; have hfz20_1:=blk_frozen BK128.out 1; have hfz20_2:=blk_frozen BK128.out 2; have hfz20_3:=blk_frozen BK128.out 3; have hfz20_4:=blk_frozen BK128.out 4)|((with_reducible refine gate_callee (f:=57) rfl ?_); refine goesL_ (some 4) rfl rfl Try.func57 (by kernel_rfl) rfl #[.agg #[.int .i64 a0_0,.int .i64 a0_1,.string a0_2,.slice A0_3 l0_3.length c0_3,.slice A0_4 l0_4.length c0_4]] rfl (by (try simp only [List.map_toArray,List.map_cons,List.map_nil]); first|done|rfl|(simp only [List.length_drop,List.length_take]; rfl)) ?_; (with_reducible refine (spec_l3Deep.calls k a0_0 a0_1 a0_2 _ _ l0_3 _ _ l0_4 t129 _ ?side1 ?side2 ?side3 ?side4 A2.out).mono ?_); (case side1=>repeat (first|exact (Kd.C_below HR0_3.out HB.out)|(with_reducible refine Kd.C_alloc ?_ _)|(with_reducible refine Kd.C_drewN ?_ _)|(with_reducible refine Kd.C_drew ?_))); (case side2=>exact HC0_3.out); (case side3=>repeat (first|exact (Kd.C_below HR0_4.out HB.out)|(with_reducible refine Kd.C_alloc ?_ _)|(with_reducible refine Kd.C_drewN ?_ _)|(with_reducible refine Kd.C_drew ?_))); (case side4=>exact HC0_4.out); rintro e w21 ⟨rfl,hb⟩; refine ⟨_,rfl,?_⟩; have n0_:=Aside0.mk (blk_below (g:=gb128) (o:=.cells #[.int .i64 a0_0,.int .i64 a0_1,.string a0_2,.slice A0_3 l0_3.length c0_3,.slice A0_4 l0_4.length c0_4] 33 (0,0)) (by (with_reducible repeat (first|refine blk_drewN ?_ _|refine blk_drew ?_|refine blk_alloc ?_ _)); exact BK128.out) hb); have n1_:=Aside0.mk (below_step (by repeat (first|(with_reducible first|exact HB.out|apply below_alloc|apply pw_below_drewN|apply below_drew1|refine below_set ?_ GE128.out)|exact HB.out)) hb); clear BK128; clear HB; have BK128:=n0_; have HB:=n1_; clear n0_ n1_; (try clear hb); (try clear hb2); (try clear hk); (try clear hi)))
  go_ret
  exact ⟨by first|rfl|(simp [errW_none,errW_some]<;>rfl)|(simp [*,errW_none,errW_some]<;>rfl),by repeat (first|(with_reducible first|exact HB.out|apply below_alloc|apply pw_below_drewN|apply below_drew1|refine below_set ?_ GE128.out)|exact HB.out)⟩
def laws_toStringS.l0:Nat→List ByteArray→List ByteArray→Int→Option (List ByteArray)
 |0,_,_,_=>none
 |k+1,x0,x3,x4=>if x4<(x0.length:Int) then (if 0≤x4 then (if x4<(x3.length:Int) then (laws_toStringS.l0 k x0 (x3.set (x4:Int).toNat (rdOf ByteArray.empty x0 x4)) (wrap64 (x4+1))) else (none)) else (none)) else (some x3)
def laws_toStringS.f (k:Nat) (l0:List ByteArray):Option (List ByteArray):=if 0≤(l0.length:Int) then (if ((l0.length:Int):Int).toNat≤17592186044416 then (laws_toStringS.l0 k l0 (List.replicate ((l0.length:Int):Int).toNat (⟨#[]⟩:ByteArray)) 0) else (none)) else (none)
theorem laws_toStringS.mono_l:∀ k,(∀ y0 y1 y2,LeO (laws_toStringS.l0 k y0 y1 y2) (laws_toStringS.l0 (k+1) y0 y1 y2))
 |0=>fun _ _ _ r h=>by simp [laws_toStringS.l0] at h
 |k+1=>by
  have ih0:=laws_toStringS.mono_l k
  ·intro y0 y1 y2
   unfold laws_toStringS.l0
   repeat' first
   |(with_reducible exact ih0 _ _ _)
   |(with_reducible exact LeO.refl _)
   |(with_reducible exact LeO.none _)
   |(with_reducible refine LeO.ite ?_ ?_)
   |(with_reducible refine LeO.bind ?_ (fun _=>?_))
   |exact ih0 _ _ _
   |exact LeO.none _
   |refine LeO.ite ?_ ?_
   |refine LeO.bind ?_ (fun _=>?_)
theorem laws_toStringS.mono:∀ a0 k,LeO (laws_toStringS.f k a0) (laws_toStringS.f (k+1) a0):=by
 intro a0 k
 have ih0:=laws_toStringS.mono_l k
 unfold laws_toStringS.f
 repeat' first
   |(with_reducible exact ih0 _ _ _)
   |(with_reducible exact LeO.refl _)
   |(with_reducible exact LeO.none _)
   |(with_reducible refine LeO.ite ?_ ?_)
   |(with_reducible refine LeO.bind ?_ (fun _=>?_))
   |exact ih0 _ _ _
   |exact LeO.none _
   |refine LeO.ite ?_ ?_
   |refine LeO.bind ?_ (fun _=>?_)
set_option maxHeartbeats 8000000 in
set_option maxRecDepth 100000 in
theorem laws_toStringS.calls (k:Nat) (A0:Option Addr) (c0:Nat) (l0:List ByteArray) (r:List ByteArray) (w:World) (hr0:Kd.C Kd.string w A0 l0.length l0) (hc0:l0.length≤c0) (h:laws_toStringS.f k l0=some r) :
  Calls Try.prog 23 #[.slice A0 l0.length c0] w fun e w'=>∃ v0_:Value,e=.returned (v0_)∧Kd.R Kd.string 9 w' w.heap.size (fun _=>True) v0_ r∧Below w.heap.size w w':=by
 have HR0:=Aside0.mk hr0
 have HC0:=Aside0.mk hc0
 clear hr0 hc0
 have HB:=Aside0.mk (Below.refl w.heap.size w)
 have H:(if 0≤(l0.length:Int) then (if ((l0.length:Int):Int).toNat≤17592186044416 then (laws_toStringS.l0 k l0 (List.replicate ((l0.length:Int):Int).toNat (⟨#[]⟩:ByteArray)) 0) else (none)) else (none))=some r:=h
 clear h
 by_cases c2:0≤(l0.length:Int)
 ·rw [if_pos c2] at H
  have c2b0:=eq_true c2
  have c2b1:decide (0≤(l0.length:Int))=true:=decide_eq_true c2
  clear c2
  by_cases c3:((l0.length:Int):Int).toNat≤17592186044416
  ·rw [if_pos c3] at H
   have c3b0:=eq_true c3
   have c3b1:decide (((l0.length:Int):Int).toNat≤17592186044416)=true:=decide_eq_true c3
   clear c3
   obtain ⟨y225,hy225⟩:∃ y_:List ByteArray,y_=(List.replicate ((l0.length:Int):Int).toNat (⟨#[]⟩:ByteArray)):=⟨_,rfl⟩
   replace H:(laws_toStringS.l0 k l0 y225 0)=some r:=by first|(rw [hy225]; with_reducible exact H)|(have H2_:=(Option.bind_some _ _).symm.trans H; rw [hy225]; with_reducible exact H2_)|(have H2_:=(Option.bind_some _ _).symm.trans H; with_reducible exact H2_)|with_reducible exact H|(rw [hy225]; exact H)|exact H
   have Ny225:=Aside0.mk hy225
   clear hy225
   have H':=Aside0.mk H
   clear H
   go_enter Try.func23,Try.ntmps23
   go_wp2_with (first|((with_reducible refine gate_dst (N:=7) rfl ?_); refine Kd.R_make Kd.string _ 9 rfl (N:=7) rfl 22 _ _ rfl (l0.length:Int) rfl rfl Try.underlying22 (.string ⟨#[]⟩) 16 info9 rfl (by decide) (by omega) (⟨#[]⟩:ByteArray) (ok:=fun _=>True) (okp:=fun _=>True) rfl (fun _ hk=>hk) trivial (of_decide_eq_true (by first|(with_reducible assumption)|assumption)) (Nat.le_trans (Nat.mul_le_mul_right _ (of_decide_eq_true (by first|(with_reducible assumption)|assumption):(l0.length:Int).toNat≤17592186044416)) (by omega)) (Below.refl _ _) (Nat.le_refl _) ?_; intro v226 w4 ho5 hb hg_ hnew_; clear hg_ hnew_; (first|rw [← Ny225.out] at ho5|(simp only [Int.reduceToNat] at ho5; rw [← Ny225.out] at ho5)); have n0_:=Aside0.mk (Kd.R_lower ho5 (below_size (by repeat (first|(with_reducible first|exact HB.out|apply below_alloc|apply pw_below_drewN|apply below_drew1)|exact HB.out)))); have n1_:=Aside0.mk (below_step (by repeat (first|(with_reducible first|exact HB.out|apply below_alloc|apply pw_below_drewN|apply below_drew1)|exact HB.out)) hb); clear HB; have HO227:=n0_; have HB:=n1_; clear n0_ n1_; clear hb ho5))
   go_loopg [4] k (fun kq v4 w'=>∃ (x3_1:List ByteArray) (x4_1:Int),v4=.int .i64 x4_1∧Aside0 (laws_toStringS.l0 kq l0 x3_1 x4_1=some r)∧Aside0 (kq≤k)∧Aside0 (Kd.R Kd.string 9 w' w.heap.size (fun _=>True) v226 x3_1)∧Aside0 (Below w.heap.size w w'))
   case atStart=>exact ⟨(y225),(0),(by first|rfl|(simp; done)|(simp [*]; done)),H',⟨Nat.le_refl _⟩,⟨by (with_reducible repeat (first|apply Kd.R_alloc|apply Kd.R_drewN|apply Kd.R_drew)); exact HO227.out⟩,⟨by repeat (first|(with_reducible first|exact HB.out|apply below_alloc|apply pw_below_drewN|apply below_drew1)|exact HB.out)⟩⟩
   case round =>
    clear H'
    try clear c2
    try clear c2b0
    try clear c2b1
    try clear p2
    try clear c3
    try clear c3b0
    try clear c3b1
    obtain ⟨x3_1,x4_1,rfl,HA,HK1,HO_3,HB⟩:=hrel
    cases gk with
    |zero=>exact absurd HA.out (by simp [laws_toStringS.l0])
    |succ k1 =>
     have H:=HA.out
     clear HA
     simp only [laws_toStringS.l0] at H
     by_cases c6:x4_1<(l0.length:Int)
     ·rw [if_pos c6] at H
      have c6b0:decide (x4_1<(l0.length:Int))=true:=decide_eq_true c6
      clear c6
      by_cases c7:0≤x4_1
      ·rw [if_pos c7] at H
       have c7b0:decide (0≤x4_1)=true:=decide_eq_true c7
       clear c7
       by_cases c8:x4_1<(x3_1.length:Int)
       ·rw [if_pos c8] at H
        have c8b0:decide (x4_1<(x3_1.length:Int))=true:=decide_eq_true c8
        clear c8
        obtain ⟨y229,hy229⟩:∃ y_:List ByteArray,y_=(x3_1.set (x4_1:Int).toNat (rdOf ByteArray.empty l0 x4_1)):=⟨_,rfl⟩
        replace H:(laws_toStringS.l0 k1 l0 y229 (wrap64 (x4_1+1)))=some r:=by first|(rw [hy229]; with_reducible exact H)|(have H2_:=(Option.bind_some _ _).symm.trans H; rw [hy229]; with_reducible exact H2_)|(have H2_:=(Option.bind_some _ _).symm.trans H; with_reducible exact H2_)|with_reducible exact H|(rw [hy229]; exact H)|exact H
        have Ny229:=Aside0.mk hy229
        clear hy229
        have H':=Aside0.mk H
        clear H
        have p228:0≤(x4_1:Int):=of_decide_eq_true (by first|(with_reducible assumption)|assumption)
        have q228:x4_1<(l0.length:Int):=of_decide_eq_true (by first|(with_reducible assumption)|assumption)
        obtain ⟨ad228,e228,hx228_0⟩:=Kd.at_string HR0.out x4_1 p228 q228
        cases e228
        replace hx228_0:=(HB.out.cell (World.block_lt_of_cell? w _ hx228_0)).trans hx228_0
        replace p228:=eq_true p228
        replace q228:=eq_true q228
        have p9:0≤(x4_1:Int):=of_decide_eq_true (by first|(with_reducible assumption)|assumption)
        have q9:(x4_1:Int)<((x3_1.length:Int):Int):=of_decide_eq_true (by first|(with_reducible assumption)|assumption)
        obtain ⟨go9,co9,eo9,gb9,gl9,cl9,HG9⟩:=Kd.R_form HO_3.out (by omega)
        (first|cases eo9|(injection eo9 with ea_ en_ ec_; (first|subst ea_|(injection ea_ with ea_; subst ea_)); subst ec_; clear en_))
        have GB9:=Aside0.mk gb9
        have GG9:=Aside0.mk HG9
        clear gb9 gl9 HG9
        obtain ⟨hx9_0,hf9_0⟩:=Kd.R_celln (⟨#[]⟩:ByteArray) HO_3.out (x4_1:Int) p9 q9
        replace p9:=eq_true p9
        replace q9:=eq_true q9
        have HP10:=Kd.R_putg HO_3.out (x4_1:Int) (rdOf ByteArray.empty l0 x4_1)
        go_wp2_with (first|((with_reducible refine gate_store (t:=9) (p:=20) rfl ?_); refine store_event (t:=9) (p:=20) (v:=?vo_w11) (w1:=(wr.setCell ⟨go9,(x4_1:Int).toNat,none⟩ (.string (rdOf ByteArray.empty l0 x4_1)))) ?hg ?ho ?hn ?hr ?_; (case ho=>rfl); (case hg=>rfl); (case hn=>rfl); (case hr=>first|(go_simp; done)|(go_simp; rfl)); intro w11 hw; have hg:wr.grownBy w11 (some go9):=(by rw [hw]; exact HP10.2); have hp_:Kd.R Kd.string 9 w11 w.heap.size (fun _=>True) (.slice (some ⟨go9,0,none⟩) x3_1.length co9) y229:=(by rw [hw,Ny229.out]; exact HP10.1); clear HP10; have n0_:=Aside0.mk (hp_); have n1_:=Aside0.mk ((by rw [hw]; exact below_set (HB.out) GB9.out:Below w.heap.size w w11)); clear HO_3; clear HB; have HO_3:=n0_; have HB:=n1_; clear n0_ n1_; clear hg hw hp_))
        go_roundg k1
        case measure=>have:=HK1.out; omega
        case rel=>exact ⟨(y229),(wrap64 (x4_1+1)),(by first|rfl|(simp; done)|(simp [*]; done)),H',⟨by have:=HK1.out; omega⟩,⟨by (with_reducible repeat (first|apply Kd.R_alloc|apply Kd.R_drewN|apply Kd.R_drew)); exact HO_3.out⟩,⟨by repeat (first|(with_reducible first|exact HB.out|apply below_alloc|apply pw_below_drewN|apply below_drew1)|exact HB.out)⟩⟩
       ·rw [if_neg c8] at H
        exact absurd H (by simp)
      ·rw [if_neg c7] at H
       exact absurd H (by simp)
     ·rw [if_neg c6] at H
      have c6b0:decide (x4_1<(l0.length:Int))=false:=decide_eq_false c6
      clear c6
      obtain rfl:=Option.some.inj H
      go_wp2
      go_ret
      exact ⟨_,by first|rfl|(simp [errW_none,errW_some]<;>rfl)|(simp [*,errW_none,errW_some]<;>rfl),by (with_reducible repeat (first|apply Kd.R_alloc|apply Kd.R_drewN|apply Kd.R_drew)); exact HO_3.out,by repeat (first|(with_reducible first|exact HB.out|apply below_alloc|apply pw_below_drewN|apply below_drew1)|exact HB.out)⟩
  ·rw [if_neg c3] at H
   exact absurd H (by simp)
 ·rw [if_neg c2] at H
  exact absurd H (by simp)
end
end Go.Proofs.Ytdlhidjphaaklaa.P
