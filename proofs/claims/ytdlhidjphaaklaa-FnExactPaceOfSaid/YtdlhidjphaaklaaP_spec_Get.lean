import Derived.Test.YtdlhidjphaaklaaP0
import Derived.Test.YtdlhidjphaaklaaP_laws_szStringS
import Derived.Test.YtdlhidjphaaklaaP_spec_l3Copy
import Derived.Test.YtdlhidjphaaklaaP_spec_l7In
namespace Go.Proofs.Ytdlhidjphaaklaa.P
open Go.RowKit Go.Proofs.YtdlhidjphaaklaaW.PrintWords Go.Proofs.YtdlhidjphaaklaaW.PrintLast Go.Proofs.YtdlhidjphaaklaaW.PrintMore
attribute [local go_sem] max2_int min2_int max_two min_two max_three min_three max_four min_four
set_option linter.unusedVariables false
set_option linter.unusedSimpArgs false
noncomputable section
def spec_Get.f (k:Nat) (a0_0:Int) (a0_1:Int) (a0_2:ByteArray) (l0_3:List ByteArray) (l0_4:List (S33)) (a1:ByteArray):Option (Int × Int × ByteArray × List ByteArray × (List (S33)) × Bool):=(spec_l3At.f k a0_0 a0_1 a0_2 l0_3 l0_4 a1).bind fun t146=>(if t146<0 then (some (0,0,(⟨#[]⟩:ByteArray),([]:List ByteArray),([]:List (S33)),false)) else (if 0≤t146 then (if t146<(l0_4.length:Int) then ((spec_l3Copy.f ((rd_T33 l0_4 t146).f0) ((rd_T33 l0_4 t146).f1) ((rd_T33 l0_4 t146).f2) ((rd_T33 l0_4 t146).f3) ((rd_T33 l0_4 t146).f4)).bind fun bt148=>(some (bt148.1,bt148.2.1,bt148.2.2.1,bt148.2.2.2.1,bt148.2.2.2.2,true))) else (none)) else (none)))
theorem spec_Get.mono:∀ a0 a1 a2 a3 a4 a5 k,LeO (spec_Get.f k a0 a1 a2 a3 a4 a5) (spec_Get.f (k+1) a0 a1 a2 a3 a4 a5):=by
 intro a0 a1 a2 a3 a4 a5 k
 unfold spec_Get.f
 repeat' first
   |(with_reducible exact spec_l3At.mono _ _ _ _ _ _ _)
   |(with_reducible exact LeO.refl _)
   |(with_reducible exact LeO.none _)
   |(with_reducible refine LeO.ite ?_ ?_)
   |(with_reducible refine LeO.bind ?_ (fun _=>?_))
   |exact spec_l3At.mono _ _ _ _ _ _ _
   |exact LeO.none _
   |refine LeO.ite ?_ ?_
   |refine LeO.bind ?_ (fun _=>?_)
set_option maxHeartbeats 8000000 in
set_option maxRecDepth 100000 in
theorem spec_Get.calls (k:Nat) (a0_0:Int) (a0_1:Int) (a0_2:ByteArray) (A0_3:Option Addr) (c0_3:Nat) (l0_3:List ByteArray) (A0_4:Option Addr) (c0_4:Nat) (l0_4:List (S33)) (a1:ByteArray) (r1:Int) (r2:Int) (r3:ByteArray) (r4:List ByteArray) (r5:List (S33)) (r6:Bool) (w:World) (hr0_3:Kd.C Kd.string w A0_3 l0_3.length l0_3) (hc0_3:l0_3.length≤c0_3) (hr0_4:Kd.C k33 w A0_4 l0_4.length l0_4) (hc0_4:l0_4.length≤c0_4) (h:spec_Get.f k a0_0 a0_1 a0_2 l0_3 l0_4 a1=some (r1,r2,r3,r4,r5,r6)) :
  Calls Try.prog 46 #[.agg #[.int .i64 a0_0,.int .i64 a0_1,.string a0_2,.slice A0_3 l0_3.length c0_3,.slice A0_4 l0_4.length c0_4],.string a1] w fun e w'=>∃ v3_ v4_:Value,e=.returned (.tuple #[.agg #[.int .i64 r1,.int .i64 r2,.string r3,v3_,v4_],.bool r6])∧Kd.R Kd.string 9 w' w.heap.size (fun _=>True) v3_ r4∧Kd.R k33 33 w' w.heap.size (fun k_=>some k_ ≠ (v3_:Value).ownBlock) v4_ r5∧Below w.heap.size w w':=by
 have hu33:=Try.underlying33
 have HR0_3:=Aside0.mk hr0_3
 have HC0_3:=Aside0.mk hc0_3
 clear hr0_3 hc0_3
 have HR0_4:=Aside0.mk hr0_4
 have HC0_4:=Aside0.mk hc0_4
 clear hr0_4 hc0_4
 have HB:=Aside0.mk (Below.refl w.heap.size w)
 have H:((spec_l3At.f k a0_0 a0_1 a0_2 l0_3 l0_4 a1).bind fun t146=>(if t146<0 then (some (0,0,(⟨#[]⟩:ByteArray),([]:List ByteArray),([]:List (S33)),false)) else (if 0≤t146 then (if t146<(l0_4.length:Int) then ((spec_l3Copy.f ((rd_T33 l0_4 t146).f0) ((rd_T33 l0_4 t146).f1) ((rd_T33 l0_4 t146).f2) ((rd_T33 l0_4 t146).f3) ((rd_T33 l0_4 t146).f4)).bind fun bt148=>(some (bt148.1,bt148.2.1,bt148.2.2.1,bt148.2.2.2.1,bt148.2.2.2.2,true))) else (none)) else (none))))=some (r1,r2,r3,r4,r5,r6):=h
 clear h
 replace H:=Option.bind_eq_some_iff.mp H
 obtain ⟨t146,A30,H⟩:=H
 replace H:(if t146<0 then (some (0,0,(⟨#[]⟩:ByteArray),([]:List ByteArray),([]:List (S33)),false)) else (if 0≤t146 then (if t146<(l0_4.length:Int) then ((spec_l3Copy.f ((rd_T33 l0_4 t146).f0) ((rd_T33 l0_4 t146).f1) ((rd_T33 l0_4 t146).f2) ((rd_T33 l0_4 t146).f3) ((rd_T33 l0_4 t146).f4)).bind fun bt148=>(some (bt148.1,bt148.2.1,bt148.2.2.1,bt148.2.2.2.1,bt148.2.2.2.2,true))) else (none)) else (none)))=some (r1,r2,r3,r4,r5,r6):=H
 have A3:=Aside0.mk A30
 clear A30
 have HC4:=Aside0.mk H
 clear H
 go_enter Try.func46,Try.ntmps46
 go_upto_if 11 with (first|((with_reducible refine gate_dst (N:=2) rfl ?_); refine box_event ?hg (N:=2) ?hd (cs:=#[.int .i64 a0_0,.int .i64 a0_1,.string a0_2,.slice A0_3 l0_3.length c0_3,.slice A0_4 l0_4.length c0_4]) (t:=33) ?hr ?_; (case hd=>rfl); (case hg=>rfl); (case hr=>first|(go_simp; done)|(go_simp; rfl)); intro gb144 hg w5 hbox hb; have n0_:=Aside0.mk (below_step (by repeat (first|(with_reducible first|exact HB.out|apply below_alloc|apply pw_below_drewN|apply below_drew1)|exact HB.out)) hb); have n1_:=Aside0.mk (hbox); have n2_:=Aside0.mk ((by rw [hg]; exact (below_size (by repeat (first|(with_reducible first|exact HB.out|apply below_alloc|apply pw_below_drewN|apply below_drew1)|exact HB.out))):w.heap.size≤gb144)); have n3_:=Aside0.mk ((by rw [hg]; exact (below_size (by repeat (first|(with_reducible first|exact HB.out|apply below_alloc|apply pw_below_drewN|apply below_drew1)|exact HB.out))):w.heap.size≤gb144)); clear HB; have HB:=n0_; have BK144:=n1_; have GW144:=n2_; have GE144:=n3_; clear n0_ n1_ n2_ n3_; clear hb hbox hg)|((with_reducible refine gate_dst (N:=4) rfl ?_); refine box_event ?hg (N:=4) ?hd (cs:=#[.int .i64 0,.int .i64 0,.string (⟨#[]⟩:ByteArray),.slice none 0 0,.slice none 0 0]) (t:=33) ?hr ?_; (case hd=>rfl); (case hg=>rfl); (case hr=>first|(go_simp; done)|(go_simp; rfl)); intro gb145 hg w6 hbox hb; have n0_:=Aside0.mk (blk_below (g:=gb144) (o:=.cells #[.int .i64 a0_0,.int .i64 a0_1,.string a0_2,.slice A0_3 l0_3.length c0_3,.slice A0_4 l0_4.length c0_4] 33 (0,0)) (by (with_reducible repeat (first|refine blk_drewN ?_ _|refine blk_drew ?_|refine blk_alloc ?_ _)); exact BK144.out) hb); have n1_:=Aside0.mk (below_step (by repeat (first|(with_reducible first|exact HB.out|apply below_alloc|apply pw_below_drewN|apply below_drew1|refine below_set ?_ GE144.out)|exact HB.out)) hb); have n2_:=Aside0.mk (hbox); have n3_:=Aside0.mk ((by rw [hg]; exact (below_size (by repeat (first|(with_reducible first|exact HB.out|apply below_alloc|apply pw_below_drewN|apply below_drew1|refine below_set ?_ GE144.out)|exact HB.out))):w.heap.size≤gb145)); have n4_:=Aside0.mk ((by rw [hg]; exact (below_size (by repeat (first|(with_reducible first|exact HB.out|apply below_alloc|apply pw_below_drewN|apply below_drew1|refine below_set ?_ GE144.out)|exact HB.out))):w.heap.size≤gb145)); have n5_:=Aside0.mk ((by rw [hg]; exact Nat.ne_of_lt (blk_lt (g:=gb144) (o:=.cells #[.int .i64 a0_0,.int .i64 a0_1,.string a0_2,.slice A0_3 l0_3.length c0_3,.slice A0_4 l0_4.length c0_4] 33 (0,0)) (by (with_reducible repeat (first|refine blk_drewN ?_ _|refine blk_drew ?_|refine blk_alloc ?_ _)); exact BK144.out)):gb144 ≠ gb145)); have n6_:=Aside0.mk ((by rw [hg]; exact Nat.ne_of_gt (blk_lt (g:=gb144) (o:=.cells #[.int .i64 a0_0,.int .i64 a0_1,.string a0_2,.slice A0_3 l0_3.length c0_3,.slice A0_4 l0_4.length c0_4] 33 (0,0)) (by (with_reducible repeat (first|refine blk_drewN ?_ _|refine blk_drew ?_|refine blk_alloc ?_ _)); exact BK144.out)):gb145 ≠ gb144)); clear BK144; clear HB; have BK144:=n0_; have HB:=n1_; have BK145:=n2_; have GW145:=n3_; have GE145:=n4_; have NB144_145:=n5_; have NB145_144:=n6_; clear n0_ n1_ n2_ n3_ n4_ n5_ n6_; clear hb hbox hg; have hnb7:=NB144_145.out; have hnc7:=NB145_144.out; have hcz8_0:w6.cell? ⟨gb144,0,none⟩=some (.int .i64 a0_0):=(blk_cell BK144.out 0).trans rfl; have hcz8_1:w6.cell? ⟨gb144,1,none⟩=some (.int .i64 a0_1):=(blk_cell BK144.out 1).trans rfl; have hcz8_2:w6.cell? ⟨gb144,2,none⟩=some (.string a0_2):=(blk_cell BK144.out 2).trans rfl; have hcz8_3:w6.cell? ⟨gb144,3,none⟩=some (.slice A0_3 l0_3.length c0_3):=(blk_cell BK144.out 3).trans rfl; have hcz8_4:w6.cell? ⟨gb144,4,none⟩=some (.slice A0_4 l0_4.length c0_4):=(blk_cell BK144.out 4).trans rfl; have hfz8_0:=blk_frozen BK144.out 0; have hfz8_1:=blk_frozen BK144.out 1; have hfz8_2:=blk_frozen BK144.out 2; have hfz8_3:=blk_frozen BK144.out 3; have hfz8_4:=blk_frozen BK144.out 4)|((with_reducible refine gate_callee (f:=45) rfl ?_); refine goesL_ (some 9) rfl rfl Try.func45 (by kernel_rfl) rfl #[.agg #[.int .i64 a0_0,.int .i64 a0_1,.string a0_2,.slice A0_3 l0_3.length c0_3,.slice A0_4 l0_4.length c0_4],.string a1] rfl (by (try simp only [List.map_toArray,List.map_cons,List.map_nil]); first|done|rfl|(simp only [List.length_drop,List.length_take]; rfl)) ?_; (with_reducible refine (spec_l3At.calls k a0_0 a0_1 a0_2 _ _ l0_3 _ _ l0_4 a1 t146 _ ?side1 ?side2 ?side3 ?side4 A3.out).mono ?_); (case side1=>repeat (first|exact (Kd.C_below HR0_3.out HB.out)|(with_reducible refine Kd.C_alloc ?_ _)|(with_reducible refine Kd.C_drewN ?_ _)|(with_reducible refine Kd.C_drew ?_))); (case side2=>exact HC0_3.out); (case side3=>repeat (first|exact (Kd.C_below HR0_4.out HB.out)|(with_reducible refine Kd.C_alloc ?_ _)|(with_reducible refine Kd.C_drewN ?_ _)|(with_reducible refine Kd.C_drew ?_))); (case side4=>exact HC0_4.out); rintro e w9 ⟨rfl,hb⟩; refine ⟨_,rfl,?_⟩; have n0_:=Aside0.mk (blk_below (g:=gb144) (o:=.cells #[.int .i64 a0_0,.int .i64 a0_1,.string a0_2,.slice A0_3 l0_3.length c0_3,.slice A0_4 l0_4.length c0_4] 33 (0,0)) (by (with_reducible repeat (first|refine blk_drewN ?_ _|refine blk_drew ?_|refine blk_alloc ?_ _)); exact BK144.out) hb); have n1_:=Aside0.mk (blk_below (g:=gb145) (o:=.cells #[.int .i64 0,.int .i64 0,.string (⟨#[]⟩:ByteArray),.slice none 0 0,.slice none 0 0] 33 (0,0)) (by (with_reducible repeat (first|refine blk_drewN ?_ _|refine blk_drew ?_|refine blk_alloc ?_ _)); exact BK145.out) hb); have n2_:=Aside0.mk (below_step (by repeat (first|(with_reducible first|exact HB.out|apply below_alloc|apply pw_below_drewN|apply below_drew1|refine below_set ?_ GE144.out|refine below_set ?_ GE145.out)|exact HB.out)) hb); clear BK144; clear BK145; clear HB; have BK144:=n0_; have BK145:=n1_; have HB:=n2_; clear n0_ n1_ n2_; (try clear hb); (try clear hb2); (try clear hk); (try clear hi)))
 (try simp only [Act.put,List.setIfInBounds_toArray,List.set_cons_zero,List.set_cons_succ])
 have H:=HC4.out
 clear HC4
 by_cases c10:t146<0
 ·rw [if_pos c10] at H
  have c10b0:decide (t146<0)=true:=decide_eq_true c10
  clear c10
  (first|rw [c10b0]|(simp only [i64_w,i32_w]; rw [c10b0])|skip)
  simp only [Option.some.injEq,Prod.mk.injEq] at H
  obtain ⟨rfl,rfl,rfl,rfl,rfl,rfl⟩:=H
  have hnb11:=NB145_144.out
  have hnc11:=NB144_145.out
  have hcz12_0:w9.cell? ⟨gb145,0,none⟩=some (.int .i64 0):=(blk_cell BK145.out 0).trans rfl
  have hcz12_1:w9.cell? ⟨gb145,1,none⟩=some (.int .i64 0):=(blk_cell BK145.out 1).trans rfl
  have hcz12_2:w9.cell? ⟨gb145,2,none⟩=some (.string (⟨#[]⟩:ByteArray)):=(blk_cell BK145.out 2).trans rfl
  have hcz12_3:w9.cell? ⟨gb145,3,none⟩=some (.slice none 0 0):=(blk_cell BK145.out 3).trans rfl
  have hcz12_4:w9.cell? ⟨gb145,4,none⟩=some (.slice none 0 0):=(blk_cell BK145.out 4).trans rfl
  have hfz12_0:=blk_frozen BK145.out 0
  have hfz12_1:=blk_frozen BK145.out 1
  have hfz12_2:=blk_frozen BK145.out 2
  have hfz12_3:=blk_frozen BK145.out 3
  have hfz12_4:=blk_frozen BK145.out 4
  go_wp2
  refine bodyPost_ret (results_ct rfl _ _ gb145 33 #[.int .i64 0,.int .i64 0,.string (⟨#[]⟩:ByteArray),.slice none 0 0,.slice none 0 0] (0,0) _ rfl (by (with_reducible repeat (first|refine blk_drewN ?_ _|refine blk_drew ?_|refine blk_alloc ?_ _)); refine blk_put (cs:=#[.int .i64 0,.int .i64 0,.string (⟨#[]⟩:ByteArray),.slice none 0 0,.slice none 0 0]) ?_ 4 _ rfl; (with_reducible repeat (first|refine blk_drewN ?_ _|refine blk_drew ?_|refine blk_alloc ?_ _)); refine blk_put (cs:=#[.int .i64 0,.int .i64 0,.string (⟨#[]⟩:ByteArray),.slice none 0 0,.slice none 0 0]) ?_ 3 _ rfl; (with_reducible repeat (first|refine blk_drewN ?_ _|refine blk_drew ?_|refine blk_alloc ?_ _)); refine blk_put (cs:=#[.int .i64 0,.int .i64 0,.string (⟨#[]⟩:ByteArray),.slice none 0 0,.slice none 0 0]) ?_ 2 _ rfl; (with_reducible repeat (first|refine blk_drewN ?_ _|refine blk_drew ?_|refine blk_alloc ?_ _)); refine blk_put (cs:=#[.int .i64 0,.int .i64 0,.string (⟨#[]⟩:ByteArray),.slice none 0 0,.slice none 0 0]) ?_ 1 _ rfl; (with_reducible repeat (first|refine blk_drewN ?_ _|refine blk_drew ?_|refine blk_alloc ?_ _)); refine blk_put (cs:=#[.int .i64 0,.int .i64 0,.string (⟨#[]⟩:ByteArray),.slice none 0 0,.slice none 0 0]) ?_ 0 _ rfl; (with_reducible repeat (first|refine blk_drewN ?_ _|refine blk_drew ?_|refine blk_alloc ?_ _)); exact BK145.out) Try.underlying33 rfl (by kernel_rfl)) rfl ?_
  exact ⟨_,_,by first|rfl|(simp [errW_none,errW_some]<;>rfl)|(simp [*,errW_none,errW_some]<;>rfl),by first|exact Kd.R_nil _ _ _ _ _|exact Kd.N_nil _ _ _ _ _|exact Kd.V_nil _ _ _ _ _|exact Kd.Q_nil _ _ _ _ _|exact Kd.S_nil _ _ _ _ _,by first|exact Kd.R_nil _ _ _ _ _|exact Kd.N_nil _ _ _ _ _|exact Kd.V_nil _ _ _ _ _|exact Kd.Q_nil _ _ _ _ _|exact Kd.S_nil _ _ _ _ _,by repeat (first|(with_reducible first|exact HB.out|apply below_alloc|apply pw_below_drewN|apply below_drew1|refine below_set ?_ GE144.out|refine below_set ?_ GE145.out)|exact HB.out)⟩
 ·rw [if_neg c10] at H
  have c10b0:decide (t146<0)=false:=decide_eq_false c10
  clear c10
  (first|rw [c10b0]|(simp only [i64_w,i32_w]; rw [c10b0])|skip)
  by_cases c13:0≤t146
  ·rw [if_pos c13] at H
   have c13b0:decide (0≤t146)=true:=decide_eq_true c13
   clear c13
   by_cases c14:t146<(l0_4.length:Int)
   ·rw [if_pos c14] at H
    have c14b0:decide (t146<(l0_4.length:Int))=true:=decide_eq_true c14
    clear c14
    replace H:=Option.bind_eq_some_iff.mp H
    obtain ⟨⟨t148,t149,t150,t151,t154⟩,A150,H⟩:=H
    replace H:(some (t148,t149,t150,t151,t154,true))=some (r1,r2,r3,r4,r5,r6):=H
    have A15:=Aside0.mk A150
    clear A150
    simp only [Option.some.injEq,Prod.mk.injEq] at H
    obtain ⟨rfl,rfl,rfl,rfl,rfl,rfl⟩:=H
    have hnb16:=NB144_145.out
    have hnc16:=NB145_144.out
    have hcz17_0:w9.cell? ⟨gb144,0,none⟩=some (.int .i64 a0_0):=(blk_cell BK144.out 0).trans rfl
    have hcz17_1:w9.cell? ⟨gb144,1,none⟩=some (.int .i64 a0_1):=(blk_cell BK144.out 1).trans rfl
    have hcz17_2:w9.cell? ⟨gb144,2,none⟩=some (.string a0_2):=(blk_cell BK144.out 2).trans rfl
    have hcz17_3:w9.cell? ⟨gb144,3,none⟩=some (.slice A0_3 l0_3.length c0_3):=(blk_cell BK144.out 3).trans rfl
    have hcz17_4:w9.cell? ⟨gb144,4,none⟩=some (.slice A0_4 l0_4.length c0_4):=(blk_cell BK144.out 4).trans rfl
    have hfz17_0:=blk_frozen BK144.out 0
    have hfz17_1:=blk_frozen BK144.out 1
    have hfz17_2:=blk_frozen BK144.out 2
    have hfz17_3:=blk_frozen BK144.out 3
    have hfz17_4:=blk_frozen BK144.out 4
    have p147:0≤(t146:Int):=of_decide_eq_true (by first|(with_reducible assumption)|assumption)
    have q147:t146<(l0_4.length:Int):=of_decide_eq_true (by first|(with_reducible assumption)|assumption)
    obtain ⟨ad147,A147_3,c147_3,A147_4,c147_4,e147,hx147_0,hx147_1,hx147_2,hx147_3,hx147_4,hl147_3,hi147_3,hl147_4,hi147_4⟩:=at_T33 HR0_4.out t146 p147 q147
    cases e147
    replace hx147_0:=(HB.out.cell (World.block_lt_of_cell? w _ hx147_0)).trans hx147_0
    replace hx147_1:=(HB.out.cell (World.block_lt_of_cell? w _ hx147_1)).trans hx147_1
    replace hx147_2:=(HB.out.cell (World.block_lt_of_cell? w _ hx147_2)).trans hx147_2
    replace hx147_3:=(HB.out.cell (World.block_lt_of_cell? w _ hx147_3)).trans hx147_3
    replace hx147_4:=(HB.out.cell (World.block_lt_of_cell? w _ hx147_4)).trans hx147_4
    have HR147_3:=Aside0.mk hi147_3
    have HC147_3:=Aside0.mk hl147_3
    clear hi147_3 hl147_3
    have HR147_4:=Aside0.mk hi147_4
    have HC147_4:=Aside0.mk hl147_4
    clear hi147_4 hl147_4
    replace p147:=eq_true p147
    replace q147:=eq_true q147
    go_wp2_with (first|((with_reducible refine gate_callee (f:=65) rfl ?_); refine goesL_ (some 18) rfl rfl Try.func65 (by kernel_rfl) rfl #[.agg #[.int .i64 ((rd_T33 l0_4 t146).f0),.int .i64 ((rd_T33 l0_4 t146).f1),.string ((rd_T33 l0_4 t146).f2),.slice A147_3 ((rd_T33 l0_4 t146).f3).length c147_3,.slice A147_4 ((rd_T33 l0_4 t146).f4).length c147_4]] rfl (by (try simp only [List.map_toArray,List.map_cons,List.map_nil]); first|done|rfl|(simp only [List.length_drop,List.length_take]; rfl)) ?_; (with_reducible refine (spec_l3Copy.calls ((rd_T33 l0_4 t146).f0) ((rd_T33 l0_4 t146).f1) ((rd_T33 l0_4 t146).f2) _ _ ((rd_T33 l0_4 t146).f3) _ _ ((rd_T33 l0_4 t146).f4) t148 t149 t150 t151 t154 _ ?side1 ?side2 ?side3 ?side4 A15.out).mono ?_); (case side1=>repeat (first|exact (Kd.C_below HR147_3.out HB.out)|(with_reducible refine Kd.C_alloc ?_ _)|(with_reducible refine Kd.C_drewN ?_ _)|(with_reducible refine Kd.C_drew ?_))); (case side2=>exact HC147_3.out); (case side3=>repeat (first|exact (Kd.C_below HR147_4.out HB.out)|(with_reducible refine Kd.C_alloc ?_ _)|(with_reducible refine Kd.C_drewN ?_ _)|(with_reducible refine Kd.C_drew ?_))); (case side4=>exact HC147_4.out); rintro e w18 ⟨v152,v155,rfl,ho0,ho1,hb⟩; refine ⟨_,rfl,?_⟩; have n0_:=Aside0.mk (Kd.R_lower ho0 (below_size (by repeat (first|(with_reducible first|exact HB.out|apply below_alloc|apply pw_below_drewN|apply below_drew1|refine below_set ?_ GE144.out|refine below_set ?_ GE145.out)|exact HB.out)))); have n1_:=Aside0.mk (Kd.R_lower (Kd.R_newB (Kd.R_newB ho1 (g:=gb144) (o:=.cells #[.int .i64 a0_0,.int .i64 a0_1,.string a0_2,.slice A0_3 l0_3.length c0_3,.slice (some ad147) l0_4.length c0_4] 33 (0,0)) (by (with_reducible repeat (first|refine blk_drewN ?_ _|refine blk_drew ?_|refine blk_alloc ?_ _)); exact BK144.out)) (g:=gb145) (o:=.cells #[.int .i64 0,.int .i64 0,.string (⟨#[]⟩:ByteArray),.slice none 0 0,.slice none 0 0] 33 (0,0)) (by (with_reducible repeat (first|refine blk_drewN ?_ _|refine blk_drew ?_|refine blk_alloc ?_ _)); exact BK145.out)) (below_size (by repeat (first|(with_reducible first|exact HB.out|apply below_alloc|apply pw_below_drewN|apply below_drew1|refine below_set ?_ GE144.out|refine below_set ?_ GE145.out)|exact HB.out)))); have n2_:=Aside0.mk (blk_below (g:=gb144) (o:=.cells #[.int .i64 a0_0,.int .i64 a0_1,.string a0_2,.slice A0_3 l0_3.length c0_3,.slice (some ad147) l0_4.length c0_4] 33 (0,0)) (by (with_reducible repeat (first|refine blk_drewN ?_ _|refine blk_drew ?_|refine blk_alloc ?_ _)); exact BK144.out) hb); have n3_:=Aside0.mk (blk_below (g:=gb145) (o:=.cells #[.int .i64 0,.int .i64 0,.string (⟨#[]⟩:ByteArray),.slice none 0 0,.slice none 0 0] 33 (0,0)) (by (with_reducible repeat (first|refine blk_drewN ?_ _|refine blk_drew ?_|refine blk_alloc ?_ _)); exact BK145.out) hb); have n4_:=Aside0.mk (below_step (by repeat (first|(with_reducible first|exact HB.out|apply below_alloc|apply pw_below_drewN|apply below_drew1|refine below_set ?_ GE144.out|refine below_set ?_ GE145.out)|exact HB.out)) hb); clear BK144; clear BK145; clear HB; have HO153:=n0_; have HO156:=n1_; have BK144:=n2_; have BK145:=n3_; have HB:=n4_; clear n0_ n1_ n2_ n3_ n4_; (try clear hb); (try clear hb2); (try clear hk); (try clear hi); (try clear ho0); (try clear ho1); have hcz19_0:w18.cell? ⟨gb145,0,none⟩=some (.int .i64 0):=(blk_cell BK145.out 0).trans rfl; have hcz19_1:w18.cell? ⟨gb145,1,none⟩=some (.int .i64 0):=(blk_cell BK145.out 1).trans rfl; have hcz19_2:w18.cell? ⟨gb145,2,none⟩=some (.string (⟨#[]⟩:ByteArray)):=(blk_cell BK145.out 2).trans rfl; have hcz19_3:w18.cell? ⟨gb145,3,none⟩=some (.slice none 0 0):=(blk_cell BK145.out 3).trans rfl; have hcz19_4:w18.cell? ⟨gb145,4,none⟩=some (.slice none 0 0):=(blk_cell BK145.out 4).trans rfl; have hfz19_0:=blk_frozen BK145.out 0; have hfz19_1:=blk_frozen BK145.out 1; have hfz19_2:=blk_frozen BK145.out 2; have hfz19_3:=blk_frozen BK145.out 3; have hfz19_4:=blk_frozen BK145.out 4; obtain ⟨Ao20,co20,eo20⟩:=Kd.R_slice HO153.out; subst eo20; obtain ⟨Ao21,co21,eo21⟩:=Kd.R_slice HO156.out; subst eo21))
    refine bodyPost_ret (results_ct rfl _ _ gb145 33 #[.int .i64 t148,.int .i64 t149,.string t150,.slice Ao20 t151.length co20,.slice Ao21 t154.length co21] (0,0) _ rfl (by (with_reducible repeat (first|refine blk_drewN ?_ _|refine blk_drew ?_|refine blk_alloc ?_ _)); refine blk_put (cs:=#[.int .i64 t148,.int .i64 t149,.string t150,.slice Ao20 t151.length co20,.slice none 0 0]) ?_ 4 _ rfl; (with_reducible repeat (first|refine blk_drewN ?_ _|refine blk_drew ?_|refine blk_alloc ?_ _)); refine blk_put (cs:=#[.int .i64 t148,.int .i64 t149,.string t150,.slice none 0 0,.slice none 0 0]) ?_ 3 _ rfl; (with_reducible repeat (first|refine blk_drewN ?_ _|refine blk_drew ?_|refine blk_alloc ?_ _)); refine blk_put (cs:=#[.int .i64 t148,.int .i64 t149,.string (⟨#[]⟩:ByteArray),.slice none 0 0,.slice none 0 0]) ?_ 2 _ rfl; (with_reducible repeat (first|refine blk_drewN ?_ _|refine blk_drew ?_|refine blk_alloc ?_ _)); refine blk_put (cs:=#[.int .i64 t148,.int .i64 0,.string (⟨#[]⟩:ByteArray),.slice none 0 0,.slice none 0 0]) ?_ 1 _ rfl; (with_reducible repeat (first|refine blk_drewN ?_ _|refine blk_drew ?_|refine blk_alloc ?_ _)); refine blk_put (cs:=#[.int .i64 0,.int .i64 0,.string (⟨#[]⟩:ByteArray),.slice none 0 0,.slice none 0 0]) ?_ 0 _ rfl; (with_reducible repeat (first|refine blk_drewN ?_ _|refine blk_drew ?_|refine blk_alloc ?_ _)); exact BK145.out) Try.underlying33 rfl (by kernel_rfl)) rfl ?_
    exact ⟨_,_,by first|rfl|(simp [errW_none,errW_some]<;>rfl)|(simp [*,errW_none,errW_some]<;>rfl),by (with_reducible repeat (first|apply Kd.R_alloc|apply Kd.R_drewN|apply Kd.R_drew)); exact Kd.R_mono (Kd.R_far (p:=⟨gb145,4,none⟩) (Kd.R_far (p:=⟨gb145,3,none⟩) (Kd.R_far (p:=⟨gb145,2,none⟩) (Kd.R_far (p:=⟨gb145,1,none⟩) (Kd.R_far (p:=⟨gb145,0,none⟩) (Kd.R_types HO153.out BK145.out (by decide)) (fun _ hk=>hk.2) (.int .i64 t148)) (fun _ hk=>hk.2) (.int .i64 t149)) (fun _ hk=>hk.2) (.string t150)) (fun _ hk=>hk.2) (.slice Ao20 t151.length co20)) (fun _ hk=>hk.2) (.slice Ao21 t154.length co21)) (fun _ hk=>trivial),by (with_reducible repeat (first|apply Kd.R_alloc|apply Kd.R_drewN|apply Kd.R_drew)); exact Kd.R_mono (Kd.R_far (p:=⟨gb145,4,none⟩) (Kd.R_far (p:=⟨gb145,3,none⟩) (Kd.R_far (p:=⟨gb145,2,none⟩) (Kd.R_far (p:=⟨gb145,1,none⟩) (Kd.R_far (p:=⟨gb145,0,none⟩) (Kd.R_mono HO156.out (fun k_ hk=>(⟨hk,hk.2⟩:_∧k_ ≠ gb145))) (fun _ hk=>hk.2) (.int .i64 t148)) (fun _ hk=>hk.2) (.int .i64 t149)) (fun _ hk=>hk.2) (.string t150)) (fun _ hk=>hk.2) (.slice Ao20 t151.length co20)) (fun _ hk=>hk.2) (.slice Ao21 t154.length co21)) (fun _ hk=>hk.1.1.1),by repeat (first|(with_reducible first|exact HB.out|apply below_alloc|apply pw_below_drewN|apply below_drew1|refine below_set ?_ GE144.out|refine below_set ?_ GE145.out)|exact HB.out)⟩
   ·rw [if_neg c14] at H
    exact absurd H (by simp)
  ·rw [if_neg c13] at H
   exact absurd H (by simp)
def spec_l7Int.f (k:Nat) (a0_0:Int) (a0_1:Int) (a0_2:ByteArray) (l0_3:List ByteArray) (l0_4:List (S33)) (a1:ByteArray) (a2:Int) (a3:Int) (a4:Int):Option (Int × Bool):=(spec_Get.f k a0_0 a0_1 a0_2 l0_3 l0_4 a1).bind fun bt158=>(if bt158.2.2.2.2.2=true then (if bt158.1=2 then ((spec_l1In.f bt158.2.1 a2 a3).bind fun t169=>(some (bt158.2.1,t169))) else (some (bt158.2.1,false))) else (some (a4,true)))
theorem spec_l7Int.mono:∀ a0 a1 a2 a3 a4 a5 a6 a7 a8 k,LeO (spec_l7Int.f k a0 a1 a2 a3 a4 a5 a6 a7 a8) (spec_l7Int.f (k+1) a0 a1 a2 a3 a4 a5 a6 a7 a8):=by
 intro a0 a1 a2 a3 a4 a5 a6 a7 a8 k
 unfold spec_l7Int.f
 repeat' first
   |(with_reducible exact spec_Get.mono _ _ _ _ _ _ _)
   |(with_reducible exact LeO.refl _)
   |(with_reducible exact LeO.none _)
   |(with_reducible refine LeO.ite ?_ ?_)
   |(with_reducible refine LeO.bind ?_ (fun _=>?_))
   |exact spec_Get.mono _ _ _ _ _ _ _
   |exact LeO.none _
   |refine LeO.ite ?_ ?_
   |refine LeO.bind ?_ (fun _=>?_)
set_option maxHeartbeats 8000000 in
set_option maxRecDepth 100000 in
theorem spec_l7Int.calls (k:Nat) (a0_0:Int) (a0_1:Int) (a0_2:ByteArray) (A0_3:Option Addr) (c0_3:Nat) (l0_3:List ByteArray) (A0_4:Option Addr) (c0_4:Nat) (l0_4:List (S33)) (a1:ByteArray) (a2:Int) (a3:Int) (a4:Int) (r1:Int) (r2:Bool) (w:World) (hr0_3:Kd.C Kd.string w A0_3 l0_3.length l0_3) (hc0_3:l0_3.length≤c0_3) (hr0_4:Kd.C k33 w A0_4 l0_4.length l0_4) (hc0_4:l0_4.length≤c0_4) (h:spec_l7Int.f k a0_0 a0_1 a0_2 l0_3 l0_4 a1 a2 a3 a4=some (r1,r2)) :
  Calls Try.prog 21 #[.agg #[.int .i64 a0_0,.int .i64 a0_1,.string a0_2,.slice A0_3 l0_3.length c0_3,.slice A0_4 l0_4.length c0_4],.string a1,.int .i64 a2,.int .i64 a3,.int .i64 a4] w fun e w'=>e=.returned (.tuple #[.int .i64 r1,.bool r2])∧Below w.heap.size w w':=by
 have hu33:=Try.underlying33
 have HR0_3:=Aside0.mk hr0_3
 have HC0_3:=Aside0.mk hc0_3
 clear hr0_3 hc0_3
 have HR0_4:=Aside0.mk hr0_4
 have HC0_4:=Aside0.mk hc0_4
 clear hr0_4 hc0_4
 have HB:=Aside0.mk (Below.refl w.heap.size w)
 have H:((spec_Get.f k a0_0 a0_1 a0_2 l0_3 l0_4 a1).bind fun bt158=>(if bt158.2.2.2.2.2=true then (if bt158.1=2 then ((spec_l1In.f bt158.2.1 a2 a3).bind fun t169=>(some (bt158.2.1,t169))) else (some (bt158.2.1,false))) else (some (a4,true))))=some (r1,r2):=h
 clear h
 replace H:=Option.bind_eq_some_iff.mp H
 obtain ⟨⟨t158,t159,t160,t161,t164,t167⟩,A60,H⟩:=H
 replace H:(if t167=true then (if t158=2 then ((spec_l1In.f t159 a2 a3).bind fun t169=>(some (t159,t169))) else (some (t159,false))) else (some (a4,true)))=some (r1,r2):=H
 have A6:=Aside0.mk A60
 clear A60
 have HC7:=Aside0.mk H
 clear H
 go_enter Try.func21,Try.ntmps21
 go_upto_if 21 with (first|((with_reducible refine gate_dst (N:=5) rfl ?_); refine box_event ?hg (N:=5) ?hd (cs:=#[.int .i64 a0_0,.int .i64 a0_1,.string a0_2,.slice A0_3 l0_3.length c0_3,.slice A0_4 l0_4.length c0_4]) (t:=33) ?hr ?_; (case hd=>rfl); (case hg=>rfl); (case hr=>first|(go_simp; done)|(go_simp; rfl)); intro gb157 hg w8 hbox hb; have n0_:=Aside0.mk (below_step (by repeat (first|(with_reducible first|exact HB.out|apply below_alloc|apply pw_below_drewN|apply below_drew1)|exact HB.out)) hb); have n1_:=Aside0.mk (hbox); have n2_:=Aside0.mk ((by rw [hg]; exact (below_size (by repeat (first|(with_reducible first|exact HB.out|apply below_alloc|apply pw_below_drewN|apply below_drew1)|exact HB.out))):w.heap.size≤gb157)); have n3_:=Aside0.mk ((by rw [hg]; exact (below_size (by repeat (first|(with_reducible first|exact HB.out|apply below_alloc|apply pw_below_drewN|apply below_drew1)|exact HB.out))):w.heap.size≤gb157)); clear HB; have HB:=n0_; have BK157:=n1_; have GW157:=n2_; have GE157:=n3_; clear n0_ n1_ n2_ n3_; clear hb hbox hg; have hcz9_0:w8.cell? ⟨gb157,0,none⟩=some (.int .i64 a0_0):=(blk_cell BK157.out 0).trans rfl; have hcz9_1:w8.cell? ⟨gb157,1,none⟩=some (.int .i64 a0_1):=(blk_cell BK157.out 1).trans rfl; have hcz9_2:w8.cell? ⟨gb157,2,none⟩=some (.string a0_2):=(blk_cell BK157.out 2).trans rfl; have hcz9_3:w8.cell? ⟨gb157,3,none⟩=some (.slice A0_3 l0_3.length c0_3):=(blk_cell BK157.out 3).trans rfl; have hcz9_4:w8.cell? ⟨gb157,4,none⟩=some (.slice A0_4 l0_4.length c0_4):=(blk_cell BK157.out 4).trans rfl; have hfz9_0:=blk_frozen BK157.out 0; have hfz9_1:=blk_frozen BK157.out 1; have hfz9_2:=blk_frozen BK157.out 2; have hfz9_3:=blk_frozen BK157.out 3; have hfz9_4:=blk_frozen BK157.out 4)|(go_at_call 46; (with_reducible refine (spec_Get.calls k a0_0 a0_1 a0_2 _ _ l0_3 _ _ l0_4 a1 t158 t159 t160 t161 t164 t167 _ ?side1 ?side2 ?side3 ?side4 A6.out).mono ?_); (case side1=>repeat (first|exact (Kd.C_below HR0_3.out HB.out)|(with_reducible refine Kd.C_alloc ?_ _)|(with_reducible refine Kd.C_drewN ?_ _)|(with_reducible refine Kd.C_drew ?_))); (case side2=>exact HC0_3.out); (case side3=>repeat (first|exact (Kd.C_below HR0_4.out HB.out)|(with_reducible refine Kd.C_alloc ?_ _)|(with_reducible refine Kd.C_drewN ?_ _)|(with_reducible refine Kd.C_drew ?_))); (case side4=>exact HC0_4.out); rintro e w10 ⟨v162,v165,rfl,ho0,ho1,hb⟩; have n0_:=Aside0.mk (Kd.R_lower ho0 (below_size (by repeat (first|(with_reducible first|exact HB.out|apply below_alloc|apply pw_below_drewN|apply below_drew1|refine below_set ?_ GE157.out)|exact HB.out)))); have n1_:=Aside0.mk (Kd.R_lower (Kd.R_newB ho1 (g:=gb157) (o:=.cells #[.int .i64 a0_0,.int .i64 a0_1,.string a0_2,.slice A0_3 l0_3.length c0_3,.slice A0_4 l0_4.length c0_4] 33 (0,0)) (by (with_reducible repeat (first|refine blk_drewN ?_ _|refine blk_drew ?_|refine blk_alloc ?_ _)); exact BK157.out)) (below_size (by repeat (first|(with_reducible first|exact HB.out|apply below_alloc|apply pw_below_drewN|apply below_drew1|refine below_set ?_ GE157.out)|exact HB.out)))); have n2_:=Aside0.mk (blk_below (g:=gb157) (o:=.cells #[.int .i64 a0_0,.int .i64 a0_1,.string a0_2,.slice A0_3 l0_3.length c0_3,.slice A0_4 l0_4.length c0_4] 33 (0,0)) (by (with_reducible repeat (first|refine blk_drewN ?_ _|refine blk_drew ?_|refine blk_alloc ?_ _)); exact BK157.out) hb); have n3_:=Aside0.mk (below_step (by repeat (first|(with_reducible first|exact HB.out|apply below_alloc|apply pw_below_drewN|apply below_drew1|refine below_set ?_ GE157.out)|exact HB.out)) hb); clear BK157; clear HB; have HO163:=n0_; have HO166:=n1_; have BK157:=n2_; have HB:=n3_; clear n0_ n1_ n2_ n3_; (try clear hb); (try clear hb2); (try clear hk); (try clear hi); (try clear ho0); (try clear ho1))|((with_reducible refine gate_dst (N:=12) rfl ?_); refine box_event ?hg (N:=12) ?hd (cs:=#[.int .i64 0,.int .i64 0,.string (⟨#[]⟩:ByteArray),.slice none 0 0,.slice none 0 0]) (t:=33) ?hr ?_; (case hd=>rfl); (case hg=>rfl); (case hr=>first|(go_simp; done)|(go_simp; rfl)); intro gb168 hg w11 hbox hb; have n0_:=Aside0.mk (Kd.R_below (by (with_reducible repeat (first|apply Kd.R_alloc|apply Kd.R_drewN|apply Kd.R_drew)); exact HO163.out) hb); have n1_:=Aside0.mk (Kd.R_below (Kd.R_elderB (by (with_reducible repeat (first|apply Kd.R_alloc|apply Kd.R_drewN|apply Kd.R_drew)); exact HO166.out) gb168 (Nat.le_of_eq hg.symm)) hb); have n2_:=Aside0.mk (blk_below (g:=gb157) (o:=.cells #[.int .i64 a0_0,.int .i64 a0_1,.string a0_2,.slice A0_3 l0_3.length c0_3,.slice A0_4 l0_4.length c0_4] 33 (0,0)) (by (with_reducible repeat (first|refine blk_drewN ?_ _|refine blk_drew ?_|refine blk_alloc ?_ _)); exact BK157.out) hb); have n3_:=Aside0.mk (below_step (by repeat (first|(with_reducible first|exact HB.out|apply below_alloc|apply pw_below_drewN|apply below_drew1|refine below_set ?_ GE157.out)|exact HB.out)) hb); have n4_:=Aside0.mk (hbox); have n5_:=Aside0.mk ((by rw [hg]; exact (below_size (by repeat (first|(with_reducible first|exact HB.out|apply below_alloc|apply pw_below_drewN|apply below_drew1|refine below_set ?_ GE157.out)|exact HB.out))):w.heap.size≤gb168)); have n6_:=Aside0.mk ((by rw [hg]; exact (below_size (by repeat (first|(with_reducible first|exact HB.out|apply below_alloc|apply pw_below_drewN|apply below_drew1|refine below_set ?_ GE157.out)|exact HB.out))):w.heap.size≤gb168)); have n7_:=Aside0.mk ((by rw [hg]; exact Nat.ne_of_lt (blk_lt (g:=gb157) (o:=.cells #[.int .i64 a0_0,.int .i64 a0_1,.string a0_2,.slice A0_3 l0_3.length c0_3,.slice A0_4 l0_4.length c0_4] 33 (0,0)) (by (with_reducible repeat (first|refine blk_drewN ?_ _|refine blk_drew ?_|refine blk_alloc ?_ _)); exact BK157.out)):gb157 ≠ gb168)); have n8_:=Aside0.mk ((by rw [hg]; exact Nat.ne_of_gt (blk_lt (g:=gb157) (o:=.cells #[.int .i64 a0_0,.int .i64 a0_1,.string a0_2,.slice A0_3 l0_3.length c0_3,.slice A0_4 l0_4.length c0_4] 33 (0,0)) (by (with_reducible repeat (first|refine blk_drewN ?_ _|refine blk_drew ?_|refine blk_alloc ?_ _)); exact BK157.out)):gb168 ≠ gb157)); clear HO163; clear HO166; clear BK157; clear HB; have HO163:=n0_; have HO166:=n1_; have BK157:=n2_; have HB:=n3_; have BK168:=n4_; have GW168:=n5_; have GE168:=n6_; have NB157_168:=n7_; have NB168_157:=n8_; clear n0_ n1_ n2_ n3_ n4_ n5_ n6_ n7_ n8_; clear hb hbox hg; have hnb12:=NB168_157.out; have hnc12:=NB157_168.out; have hcz13_0:w11.cell? ⟨gb168,0,none⟩=some (.int .i64 0):=(blk_cell BK168.out 0).trans rfl; have hcz13_1:w11.cell? ⟨gb168,1,none⟩=some (.int .i64 0):=(blk_cell BK168.out 1).trans rfl; have hcz13_2:w11.cell? ⟨gb168,2,none⟩=some (.string (⟨#[]⟩:ByteArray)):=(blk_cell BK168.out 2).trans rfl; have hcz13_3:w11.cell? ⟨gb168,3,none⟩=some (.slice none 0 0):=(blk_cell BK168.out 3).trans rfl; have hcz13_4:w11.cell? ⟨gb168,4,none⟩=some (.slice none 0 0):=(blk_cell BK168.out 4).trans rfl; have hfz13_0:=blk_frozen BK168.out 0; have hfz13_1:=blk_frozen BK168.out 1; have hfz13_2:=blk_frozen BK168.out 2; have hfz13_3:=blk_frozen BK168.out 3; have hfz13_4:=blk_frozen BK168.out 4; obtain ⟨Ao14,co14,eo14⟩:=Kd.R_slice HO163.out; subst eo14; obtain ⟨Ao15,co15,eo15⟩:=Kd.R_slice HO166.out; subst eo15))
 repeat (go_quiet (first|((with_reducible refine gate_dst (N:=5) rfl ?_); refine box_event ?hg (N:=5) ?hd (cs:=#[.int .i64 a0_0,.int .i64 a0_1,.string a0_2,.slice A0_3 l0_3.length c0_3,.slice A0_4 l0_4.length c0_4]) (t:=33) ?hr ?_; (case hd=>rfl); (case hg=>rfl); (case hr=>first|(go_simp; done)|(go_simp; rfl)); intro gb157 hg w8 hbox hb; have n0_:=Aside0.mk (below_step (by repeat (first|(with_reducible first|exact HB.out|apply below_alloc|apply pw_below_drewN|apply below_drew1)|exact HB.out)) hb); have n1_:=Aside0.mk (hbox); have n2_:=Aside0.mk ((by rw [hg]; exact (below_size (by repeat (first|(with_reducible first|exact HB.out|apply below_alloc|apply pw_below_drewN|apply below_drew1)|exact HB.out))):w.heap.size≤gb157)); have n3_:=Aside0.mk ((by rw [hg]; exact (below_size (by repeat (first|(with_reducible first|exact HB.out|apply below_alloc|apply pw_below_drewN|apply below_drew1)|exact HB.out))):w.heap.size≤gb157)); clear HB; have HB:=n0_; have BK157:=n1_; have GW157:=n2_; have GE157:=n3_; clear n0_ n1_ n2_ n3_; clear hb hbox hg; have hcz9_0:w8.cell? ⟨gb157,0,none⟩=some (.int .i64 a0_0):=(blk_cell BK157.out 0).trans rfl; have hcz9_1:w8.cell? ⟨gb157,1,none⟩=some (.int .i64 a0_1):=(blk_cell BK157.out 1).trans rfl; have hcz9_2:w8.cell? ⟨gb157,2,none⟩=some (.string a0_2):=(blk_cell BK157.out 2).trans rfl; have hcz9_3:w8.cell? ⟨gb157,3,none⟩=some (.slice A0_3 l0_3.length c0_3):=(blk_cell BK157.out 3).trans rfl; have hcz9_4:w8.cell? ⟨gb157,4,none⟩=some (.slice A0_4 l0_4.length c0_4):=(blk_cell BK157.out 4).trans rfl; have hfz9_0:=blk_frozen BK157.out 0; have hfz9_1:=blk_frozen BK157.out 1; have hfz9_2:=blk_frozen BK157.out 2; have hfz9_3:=blk_frozen BK157.out 3; have hfz9_4:=blk_frozen BK157.out 4)|(go_at_call 46; (with_reducible refine (spec_Get.calls k a0_0 a0_1 a0_2 _ _ l0_3 _ _ l0_4 a1 t158 t159 t160 t161 t164 t167 _ ?side1 ?side2 ?side3 ?side4 A6.out).mono ?_); (case side1=>repeat (first|exact (Kd.C_below HR0_3.out HB.out)|(with_reducible refine Kd.C_alloc ?_ _)|(with_reducible refine Kd.C_drewN ?_ _)|(with_reducible refine Kd.C_drew ?_))); (case side2=>exact HC0_3.out); (case side3=>repeat (first|exact (Kd.C_below HR0_4.out HB.out)|(with_reducible refine Kd.C_alloc ?_ _)|(with_reducible refine Kd.C_drewN ?_ _)|(with_reducible refine Kd.C_drew ?_))); (case side4=>exact HC0_4.out); rintro e w10 ⟨v162,v165,rfl,ho0,ho1,hb⟩; have n0_:=Aside0.mk (Kd.R_lower ho0 (below_size (by repeat (first|(with_reducible first|exact HB.out|apply below_alloc|apply pw_below_drewN|apply below_drew1|refine below_set ?_ GE157.out)|exact HB.out)))); have n1_:=Aside0.mk (Kd.R_lower (Kd.R_newB ho1 (g:=gb157) (o:=.cells #[.int .i64 a0_0,.int .i64 a0_1,.string a0_2,.slice A0_3 l0_3.length c0_3,.slice A0_4 l0_4.length c0_4] 33 (0,0)) (by (with_reducible repeat (first|refine blk_drewN ?_ _|refine blk_drew ?_|refine blk_alloc ?_ _)); exact BK157.out)) (below_size (by repeat (first|(with_reducible first|exact HB.out|apply below_alloc|apply pw_below_drewN|apply below_drew1|refine below_set ?_ GE157.out)|exact HB.out)))); have n2_:=Aside0.mk (blk_below (g:=gb157) (o:=.cells #[.int .i64 a0_0,.int .i64 a0_1,.string a0_2,.slice A0_3 l0_3.length c0_3,.slice A0_4 l0_4.length c0_4] 33 (0,0)) (by (with_reducible repeat (first|refine blk_drewN ?_ _|refine blk_drew ?_|refine blk_alloc ?_ _)); exact BK157.out) hb); have n3_:=Aside0.mk (below_step (by repeat (first|(with_reducible first|exact HB.out|apply below_alloc|apply pw_below_drewN|apply below_drew1|refine below_set ?_ GE157.out)|exact HB.out)) hb); clear BK157; clear HB; have HO163:=n0_; have HO166:=n1_; have BK157:=n2_; have HB:=n3_; clear n0_ n1_ n2_ n3_; (try clear hb); (try clear hb2); (try clear hk); (try clear hi); (try clear ho0); (try clear ho1))|((with_reducible refine gate_dst (N:=12) rfl ?_); refine box_event ?hg (N:=12) ?hd (cs:=#[.int .i64 0,.int .i64 0,.string (⟨#[]⟩:ByteArray),.slice none 0 0,.slice none 0 0]) (t:=33) ?hr ?_; (case hd=>rfl); (case hg=>rfl); (case hr=>first|(go_simp; done)|(go_simp; rfl)); intro gb168 hg w11 hbox hb; have n0_:=Aside0.mk (Kd.R_below (by (with_reducible repeat (first|apply Kd.R_alloc|apply Kd.R_drewN|apply Kd.R_drew)); exact HO163.out) hb); have n1_:=Aside0.mk (Kd.R_below (Kd.R_elderB (by (with_reducible repeat (first|apply Kd.R_alloc|apply Kd.R_drewN|apply Kd.R_drew)); exact HO166.out) gb168 (Nat.le_of_eq hg.symm)) hb); have n2_:=Aside0.mk (blk_below (g:=gb157) (o:=.cells #[.int .i64 a0_0,.int .i64 a0_1,.string a0_2,.slice A0_3 l0_3.length c0_3,.slice A0_4 l0_4.length c0_4] 33 (0,0)) (by (with_reducible repeat (first|refine blk_drewN ?_ _|refine blk_drew ?_|refine blk_alloc ?_ _)); exact BK157.out) hb); have n3_:=Aside0.mk (below_step (by repeat (first|(with_reducible first|exact HB.out|apply below_alloc|apply pw_below_drewN|apply below_drew1|refine below_set ?_ GE157.out)|exact HB.out)) hb); have n4_:=Aside0.mk (hbox); have n5_:=Aside0.mk ((by rw [hg]; exact (below_size (by repeat (first|(with_reducible first|exact HB.out|apply below_alloc|apply pw_below_drewN|apply below_drew1|refine below_set ?_ GE157.out)|exact HB.out))):w.heap.size≤gb168)); have n6_:=Aside0.mk ((by rw [hg]; exact (below_size (by repeat (first|(with_reducible first|exact HB.out|apply below_alloc|apply pw_below_drewN|apply below_drew1|refine below_set ?_ GE157.out)|exact HB.out))):w.heap.size≤gb168)); have n7_:=Aside0.mk ((by rw [hg]; exact Nat.ne_of_lt (blk_lt (g:=gb157) (o:=.cells #[.int .i64 a0_0,.int .i64 a0_1,.string a0_2,.slice A0_3 l0_3.length c0_3,.slice A0_4 l0_4.length c0_4] 33 (0,0)) (by (with_reducible repeat (first|refine blk_drewN ?_ _|refine blk_drew ?_|refine blk_alloc ?_ _)); exact BK157.out)):gb157 ≠ gb168)); have n8_:=Aside0.mk ((by rw [hg]; exact Nat.ne_of_gt (blk_lt (g:=gb157) (o:=.cells #[.int .i64 a0_0,.int .i64 a0_1,.string a0_2,.slice A0_3 l0_3.length c0_3,.slice A0_4 l0_4.length c0_4] 33 (0,0)) (by (with_reducible repeat (first|refine blk_drewN ?_ _|refine blk_drew ?_|refine blk_alloc ?_ _)); exact BK157.out)):gb168 ≠ gb157)); clear HO163; clear HO166; clear BK157; clear HB; have HO163:=n0_; have HO166:=n1_; have BK157:=n2_; have HB:=n3_; have BK168:=n4_; have GW168:=n5_; have GE168:=n6_; have NB157_168:=n7_; have NB168_157:=n8_; clear n0_ n1_ n2_ n3_ n4_ n5_ n6_ n7_ n8_; clear hb hbox hg; have hnb12:=NB168_157.out; have hnc12:=NB157_168.out; have hcz13_0:w11.cell? ⟨gb168,0,none⟩=some (.int .i64 0):=(blk_cell BK168.out 0).trans rfl; have hcz13_1:w11.cell? ⟨gb168,1,none⟩=some (.int .i64 0):=(blk_cell BK168.out 1).trans rfl; have hcz13_2:w11.cell? ⟨gb168,2,none⟩=some (.string (⟨#[]⟩:ByteArray)):=(blk_cell BK168.out 2).trans rfl; have hcz13_3:w11.cell? ⟨gb168,3,none⟩=some (.slice none 0 0):=(blk_cell BK168.out 3).trans rfl; have hcz13_4:w11.cell? ⟨gb168,4,none⟩=some (.slice none 0 0):=(blk_cell BK168.out 4).trans rfl; have hfz13_0:=blk_frozen BK168.out 0; have hfz13_1:=blk_frozen BK168.out 1; have hfz13_2:=blk_frozen BK168.out 2; have hfz13_3:=blk_frozen BK168.out 3; have hfz13_4:=blk_frozen BK168.out 4; obtain ⟨Ao14,co14,eo14⟩:=Kd.R_slice HO163.out; subst eo14; obtain ⟨Ao15,co15,eo15⟩:=Kd.R_slice HO166.out; subst eo15)); go_upto_if 21 with (first|((with_reducible refine gate_dst (N:=5) rfl ?_); refine box_event ?hg (N:=5) ?hd (cs:=#[.int .i64 a0_0,.int .i64 a0_1,.string a0_2,.slice A0_3 l0_3.length c0_3,.slice A0_4 l0_4.length c0_4]) (t:=33) ?hr ?_; (case hd=>rfl); (case hg=>rfl); (case hr=>first|(go_simp; done)|(go_simp; rfl)); intro gb157 hg w8 hbox hb; have n0_:=Aside0.mk (below_step (by repeat (first|(with_reducible first|exact HB.out|apply below_alloc|apply pw_below_drewN|apply below_drew1)|exact HB.out)) hb); have n1_:=Aside0.mk (hbox); have n2_:=Aside0.mk ((by rw [hg]; exact (below_size (by repeat (first|(with_reducible first|exact HB.out|apply below_alloc|apply pw_below_drewN|apply below_drew1)|exact HB.out))):w.heap.size≤gb157)); have n3_:=Aside0.mk ((by rw [hg]; exact (below_size (by repeat (first|(with_reducible first|exact HB.out|apply below_alloc|apply pw_below_drewN|apply below_drew1)|exact HB.out))):w.heap.size≤gb157)); clear HB; have HB:=n0_; have BK157:=n1_; have GW157:=n2_; have GE157:=n3_; clear n0_ n1_ n2_ n3_; clear hb hbox hg; have hcz9_0:w8.cell? ⟨gb157,0,none⟩=some (.int .i64 a0_0):=(blk_cell BK157.out 0).trans rfl; have hcz9_1:w8.cell? ⟨gb157,1,none⟩=some (.int .i64 a0_1):=(blk_cell BK157.out 1).trans rfl; have hcz9_2:w8.cell? ⟨gb157,2,none⟩=some (.string a0_2):=(blk_cell BK157.out 2).trans rfl; have hcz9_3:w8.cell? ⟨gb157,3,none⟩=some (.slice A0_3 l0_3.length c0_3):=(blk_cell BK157.out 3).trans rfl; have hcz9_4:w8.cell? ⟨gb157,4,none⟩=some (.slice A0_4 l0_4.length c0_4):=(blk_cell BK157.out 4).trans rfl; have hfz9_0:=blk_frozen BK157.out 0; have hfz9_1:=blk_frozen BK157.out 1; have hfz9_2:=blk_frozen BK157.out 2; have hfz9_3:=blk_frozen BK157.out 3; have hfz9_4:=blk_frozen BK157.out 4)|(go_at_call 46; (with_reducible refine (spec_Get.calls k a0_0 a0_1 a0_2 _ _ l0_3 _ _ l0_4 a1 t158 t159 t160 t161 t164 t167 _ ?side1 ?side2 ?side3 ?side4 A6.out).mono ?_); (case side1=>repeat (first|exact (Kd.C_below HR0_3.out HB.out)|(with_reducible refine Kd.C_alloc ?_ _)|(with_reducible refine Kd.C_drewN ?_ _)|(with_reducible refine Kd.C_drew ?_))); (case side2=>exact HC0_3.out); (case side3=>repeat (first|exact (Kd.C_below HR0_4.out HB.out)|(with_reducible refine Kd.C_alloc ?_ _)|(with_reducible refine Kd.C_drewN ?_ _)|(with_reducible refine Kd.C_drew ?_))); (case side4=>exact HC0_4.out); rintro e w10 ⟨v162,v165,rfl,ho0,ho1,hb⟩; have n0_:=Aside0.mk (Kd.R_lower ho0 (below_size (by repeat (first|(with_reducible first|exact HB.out|apply below_alloc|apply pw_below_drewN|apply below_drew1|refine below_set ?_ GE157.out)|exact HB.out)))); have n1_:=Aside0.mk (Kd.R_lower (Kd.R_newB ho1 (g:=gb157) (o:=.cells #[.int .i64 a0_0,.int .i64 a0_1,.string a0_2,.slice A0_3 l0_3.length c0_3,.slice A0_4 l0_4.length c0_4] 33 (0,0)) (by (with_reducible repeat (first|refine blk_drewN ?_ _|refine blk_drew ?_|refine blk_alloc ?_ _)); exact BK157.out)) (below_size (by repeat (first|(with_reducible first|exact HB.out|apply below_alloc|apply pw_below_drewN|apply below_drew1|refine below_set ?_ GE157.out)|exact HB.out)))); have n2_:=Aside0.mk (blk_below (g:=gb157) (o:=.cells #[.int .i64 a0_0,.int .i64 a0_1,.string a0_2,.slice A0_3 l0_3.length c0_3,.slice A0_4 l0_4.length c0_4] 33 (0,0)) (by (with_reducible repeat (first|refine blk_drewN ?_ _|refine blk_drew ?_|refine blk_alloc ?_ _)); exact BK157.out) hb); have n3_:=Aside0.mk (below_step (by repeat (first|(with_reducible first|exact HB.out|apply below_alloc|apply pw_below_drewN|apply below_drew1|refine below_set ?_ GE157.out)|exact HB.out)) hb); clear BK157; clear HB; have HO163:=n0_; have HO166:=n1_; have BK157:=n2_; have HB:=n3_; clear n0_ n1_ n2_ n3_; (try clear hb); (try clear hb2); (try clear hk); (try clear hi); (try clear ho0); (try clear ho1))|((with_reducible refine gate_dst (N:=12) rfl ?_); refine box_event ?hg (N:=12) ?hd (cs:=#[.int .i64 0,.int .i64 0,.string (⟨#[]⟩:ByteArray),.slice none 0 0,.slice none 0 0]) (t:=33) ?hr ?_; (case hd=>rfl); (case hg=>rfl); (case hr=>first|(go_simp; done)|(go_simp; rfl)); intro gb168 hg w11 hbox hb; have n0_:=Aside0.mk (Kd.R_below (by (with_reducible repeat (first|apply Kd.R_alloc|apply Kd.R_drewN|apply Kd.R_drew)); exact HO163.out) hb); have n1_:=Aside0.mk (Kd.R_below (Kd.R_elderB (by (with_reducible repeat (first|apply Kd.R_alloc|apply Kd.R_drewN|apply Kd.R_drew)); exact HO166.out) gb168 (Nat.le_of_eq hg.symm)) hb); have n2_:=Aside0.mk (blk_below (g:=gb157) (o:=.cells #[.int .i64 a0_0,.int .i64 a0_1,.string a0_2,.slice A0_3 l0_3.length c0_3,.slice A0_4 l0_4.length c0_4] 33 (0,0)) (by (with_reducible repeat (first|refine blk_drewN ?_ _|refine blk_drew ?_|refine blk_alloc ?_ _)); exact BK157.out) hb); have n3_:=Aside0.mk (below_step (by repeat (first|(with_reducible first|exact HB.out|apply below_alloc|apply pw_below_drewN|apply below_drew1|refine below_set ?_ GE157.out)|exact HB.out)) hb); have n4_:=Aside0.mk (hbox); have n5_:=Aside0.mk ((by rw [hg]; exact (below_size (by repeat (first|(with_reducible first|exact HB.out|apply below_alloc|apply pw_below_drewN|apply below_drew1|refine below_set ?_ GE157.out)|exact HB.out))):w.heap.size≤gb168)); have n6_:=Aside0.mk ((by rw [hg]; exact (below_size (by repeat (first|(with_reducible first|exact HB.out|apply below_alloc|apply pw_below_drewN|apply below_drew1|refine below_set ?_ GE157.out)|exact HB.out))):w.heap.size≤gb168)); have n7_:=Aside0.mk ((by rw [hg]; exact Nat.ne_of_lt (blk_lt (g:=gb157) (o:=.cells #[.int .i64 a0_0,.int .i64 a0_1,.string a0_2,.slice A0_3 l0_3.length c0_3,.slice A0_4 l0_4.length c0_4] 33 (0,0)) (by (with_reducible repeat (first|refine blk_drewN ?_ _|refine blk_drew ?_|refine blk_alloc ?_ _)); exact BK157.out)):gb157 ≠ gb168)); have n8_:=Aside0.mk ((by rw [hg]; exact Nat.ne_of_gt (blk_lt (g:=gb157) (o:=.cells #[.int .i64 a0_0,.int .i64 a0_1,.string a0_2,.slice A0_3 l0_3.length c0_3,.slice A0_4 l0_4.length c0_4] 33 (0,0)) (by (with_reducible repeat (first|refine blk_drewN ?_ _|refine blk_drew ?_|refine blk_alloc ?_ _)); exact BK157.out)):gb168 ≠ gb157)); clear HO163; clear HO166; clear BK157; clear HB; have HO163:=n0_; have HO166:=n1_; have BK157:=n2_; have HB:=n3_; have BK168:=n4_; have GW168:=n5_; have GE168:=n6_; have NB157_168:=n7_; have NB168_157:=n8_; clear n0_ n1_ n2_ n3_ n4_ n5_ n6_ n7_ n8_; clear hb hbox hg; have hnb12:=NB168_157.out; have hnc12:=NB157_168.out; have hcz13_0:w11.cell? ⟨gb168,0,none⟩=some (.int .i64 0):=(blk_cell BK168.out 0).trans rfl; have hcz13_1:w11.cell? ⟨gb168,1,none⟩=some (.int .i64 0):=(blk_cell BK168.out 1).trans rfl; have hcz13_2:w11.cell? ⟨gb168,2,none⟩=some (.string (⟨#[]⟩:ByteArray)):=(blk_cell BK168.out 2).trans rfl; have hcz13_3:w11.cell? ⟨gb168,3,none⟩=some (.slice none 0 0):=(blk_cell BK168.out 3).trans rfl; have hcz13_4:w11.cell? ⟨gb168,4,none⟩=some (.slice none 0 0):=(blk_cell BK168.out 4).trans rfl; have hfz13_0:=blk_frozen BK168.out 0; have hfz13_1:=blk_frozen BK168.out 1; have hfz13_2:=blk_frozen BK168.out 2; have hfz13_3:=blk_frozen BK168.out 3; have hfz13_4:=blk_frozen BK168.out 4; obtain ⟨Ao14,co14,eo14⟩:=Kd.R_slice HO163.out; subst eo14; obtain ⟨Ao15,co15,eo15⟩:=Kd.R_slice HO166.out; subst eo15)))
 (try simp only [Act.put,List.setIfInBounds_toArray,List.set_cons_zero,List.set_cons_succ])
 have H:=HC7.out
 clear HC7
 by_cases c16:t167=true
 ·subst c16
  have H1:(if t158=2 then ((spec_l1In.f t159 a2 a3).bind fun t169=>(some (t159,t169))) else (some (t159,false)))=some (r1,r2):=by rw [if_pos rfl] at H; exact H
  clear H
  have H:=H1
  clear H1
  by_cases c17:t158=2
  ·rw [if_pos c17] at H
   have c17b0:(t158 == 2)=true:=beq_iff_eq.mpr c17
   have c17b1:(t158 != 2)=false:=bne_eq_false_iff_eq.mpr c17
   clear c17
   (first|rw [c17b0]|rw [c17b1]|(simp only [i64_w,i32_w]; rw [c17b0])|skip)
   replace H:=Option.bind_eq_some_iff.mp H
   obtain ⟨t169,A180,H⟩:=H
   replace H:(some (t159,t169))=some (r1,r2):=H
   have A18:=Aside0.mk A180
   clear A180
   simp only [Option.some.injEq,Prod.mk.injEq] at H
   obtain ⟨rfl,rfl⟩:=H
   have hnb19:=NB168_157.out
   have hnc19:=NB157_168.out
   have hcz20_0:w11.cell? ⟨gb168,0,none⟩=some (.int .i64 0):=(blk_cell BK168.out 0).trans rfl
   have hcz20_1:w11.cell? ⟨gb168,1,none⟩=some (.int .i64 0):=(blk_cell BK168.out 1).trans rfl
   have hcz20_2:w11.cell? ⟨gb168,2,none⟩=some (.string (⟨#[]⟩:ByteArray)):=(blk_cell BK168.out 2).trans rfl
   have hcz20_3:w11.cell? ⟨gb168,3,none⟩=some (.slice none 0 0):=(blk_cell BK168.out 3).trans rfl
   have hcz20_4:w11.cell? ⟨gb168,4,none⟩=some (.slice none 0 0):=(blk_cell BK168.out 4).trans rfl
   have hfz20_0:=blk_frozen BK168.out 0
   have hfz20_1:=blk_frozen BK168.out 1
   have hfz20_2:=blk_frozen BK168.out 2
   have hfz20_3:=blk_frozen BK168.out 3
   have hfz20_4:=blk_frozen BK168.out 4
   go_wp2_with (first|(go_at_call 47; (with_reducible refine (spec_l1In.calls t159 a2 a3 t169 _ A18.out).mono ?_); rintro e w' ⟨rfl,⟨nd,rfl⟩⟩; (try first|exact ⟨rfl,_,World.drewN_drewN _ _ _⟩|exact ⟨rfl,_,Eq.trans (World.drewN_drewN _ _ _) (congrArg (World.drewN _) (Nat.add_assoc _ _ _))⟩)))
   repeat (go_quiet (first|(go_at_call 47; (with_reducible refine (spec_l1In.calls t159 a2 a3 t169 _ A18.out).mono ?_); rintro e w' ⟨rfl,⟨nd,rfl⟩⟩; (try first|exact ⟨rfl,_,World.drewN_drewN _ _ _⟩|exact ⟨rfl,_,Eq.trans (World.drewN_drewN _ _ _) (congrArg (World.drewN _) (Nat.add_assoc _ _ _))⟩))); try go_wp2_with (first|(go_at_call 47; (with_reducible refine (spec_l1In.calls t159 a2 a3 t169 _ A18.out).mono ?_); rintro e w' ⟨rfl,⟨nd,rfl⟩⟩; (try first|exact ⟨rfl,_,World.drewN_drewN _ _ _⟩|exact ⟨rfl,_,Eq.trans (World.drewN_drewN _ _ _) (congrArg (World.drewN _) (Nat.add_assoc _ _ _))⟩))))
   go_ret2
   exact ⟨by first|rfl|(simp [errW_none,errW_some]<;>rfl)|(simp [*,errW_none,errW_some]<;>rfl),by repeat (first|(with_reducible first|exact HB.out|apply below_alloc|apply pw_below_drewN|apply below_drew1|refine below_set ?_ GE157.out|refine below_set ?_ GE168.out)|exact HB.out)⟩
  ·rw [if_neg c17] at H
   have c17b0:(t158 == 2)=false:=beq_eq_false_iff_ne.mpr c17
   have c17b1:(t158 != 2)=true:=bne_iff_ne.mpr c17
   (first|rw [c17b0]|rw [c17b1]|(simp only [i64_w,i32_w]; rw [c17b0])|skip)
   simp only [Option.some.injEq,Prod.mk.injEq] at H
   obtain ⟨rfl,rfl⟩:=H
   have hnb21:=NB168_157.out
   have hnc21:=NB157_168.out
   have hcz22_0:w11.cell? ⟨gb168,0,none⟩=some (.int .i64 0):=(blk_cell BK168.out 0).trans rfl
   have hcz22_1:w11.cell? ⟨gb168,1,none⟩=some (.int .i64 0):=(blk_cell BK168.out 1).trans rfl
   have hcz22_2:w11.cell? ⟨gb168,2,none⟩=some (.string (⟨#[]⟩:ByteArray)):=(blk_cell BK168.out 2).trans rfl
   have hcz22_3:w11.cell? ⟨gb168,3,none⟩=some (.slice none 0 0):=(blk_cell BK168.out 3).trans rfl
   have hcz22_4:w11.cell? ⟨gb168,4,none⟩=some (.slice none 0 0):=(blk_cell BK168.out 4).trans rfl
   have hfz22_0:=blk_frozen BK168.out 0
   have hfz22_1:=blk_frozen BK168.out 1
   have hfz22_2:=blk_frozen BK168.out 2
   have hfz22_3:=blk_frozen BK168.out 3
   have hfz22_4:=blk_frozen BK168.out 4
   go_wp2
   repeat (go_quiet (fail); try go_wp2)
   go_ret2
   exact ⟨by first|rfl|(simp [errW_none,errW_some]<;>rfl)|(simp [*,errW_none,errW_some]<;>rfl),by repeat (first|(with_reducible first|exact HB.out|apply below_alloc|apply pw_below_drewN|apply below_drew1|refine below_set ?_ GE157.out|refine below_set ?_ GE168.out)|exact HB.out)⟩
 ·replace c16:=Bool.eq_false_iff.mpr c16
  subst c16
  have H1:(some (a4,true))=some (r1,r2):=by rw [if_neg (show ¬ (false=true) by decide)] at H; exact H
  clear H
  have H:=H1
  clear H1
  simp only [Option.some.injEq,Prod.mk.injEq] at H
  obtain ⟨rfl,rfl⟩:=H
  go_wp2
  repeat (go_quiet (fail); try go_wp2)
  go_ret2
  exact ⟨by first|rfl|(simp [errW_none,errW_some]<;>rfl)|(simp [*,errW_none,errW_some]<;>rfl),by repeat (first|(with_reducible first|exact HB.out|apply below_alloc|apply pw_below_drewN|apply below_drew1|refine below_set ?_ GE157.out|refine below_set ?_ GE168.out)|exact HB.out)⟩
def spec_l2Head.l0:Nat→ByteArray→Int→Option (Int)
 |0,_,_=>none
 |k+1,x0,x3=>if x3<(x0.size:Int) then (if 0≤x3 then (if (bt x0 x3) ≥ 48 then (if (bt x0 x3)≤57 then (spec_l2Head.l0 k x0 (wrap64 (x3+1))) else (some x3)) else (some x3)) else (none)) else (some x3)
def spec_l2Head.f (k:Nat) (a0:ByteArray):Option (Int):=spec_l2Head.l0 k a0 0
theorem spec_l2Head.mono_l:∀ k,(∀ y0 y1,LeO (spec_l2Head.l0 k y0 y1) (spec_l2Head.l0 (k+1) y0 y1))
 |0=>fun _ _ r h=>by simp [spec_l2Head.l0] at h
 |k+1=>by
  have ih0:=spec_l2Head.mono_l k
  ·intro y0 y1
   unfold spec_l2Head.l0
   repeat' first
   |(with_reducible exact ih0 _ _)
   |(with_reducible exact LeO.refl _)
   |(with_reducible exact LeO.none _)
   |(with_reducible refine LeO.ite ?_ ?_)
   |(with_reducible refine LeO.bind ?_ (fun _=>?_))
   |exact ih0 _ _
   |exact LeO.none _
   |refine LeO.ite ?_ ?_
   |refine LeO.bind ?_ (fun _=>?_)
theorem spec_l2Head.mono:∀ a0 k,LeO (spec_l2Head.f k a0) (spec_l2Head.f (k+1) a0):=by
 intro a0 k
 have ih0:=spec_l2Head.mono_l k
 unfold spec_l2Head.f
 repeat' first
   |(with_reducible exact ih0 _ _)
   |(with_reducible exact LeO.refl _)
   |(with_reducible exact LeO.none _)
   |(with_reducible refine LeO.ite ?_ ?_)
   |(with_reducible refine LeO.bind ?_ (fun _=>?_))
   |exact ih0 _ _
   |exact LeO.none _
   |refine LeO.ite ?_ ?_
   |refine LeO.bind ?_ (fun _=>?_)
set_option maxHeartbeats 8000000 in
set_option maxRecDepth 100000 in
theorem spec_l2Head.calls (k:Nat) (a0:ByteArray) (r:Int) (w:World) (h:spec_l2Head.f k a0=some r) :
  Calls Try.prog 77 #[.string a0] w fun e w'=>e=.returned (.int .i64 r)∧Drawn0 w w':=by
 have H:(spec_l2Head.l0 k a0 0)=some r:=h
 clear h
 have H':=Aside0.mk H
 clear H
 go_enter Try.func77,Try.ntmps77
 go_wp2
 go_loopg [3] k (fun kq v3 w'=>∃ (x3_1:Int),v3=.int .i64 x3_1∧Aside0 (spec_l2Head.l0 kq a0 x3_1=some r)∧Aside0 (kq≤k)∧Drawn0 w w')
 case atStart=>exact ⟨(0),(by first|rfl|(simp; done)|(simp [*]; done)),H',⟨Nat.le_refl _⟩,by repeat (first|exact Drawn0.refl _|apply Drawn0.step)⟩
 case round =>
  clear H'
  obtain ⟨x3_1,rfl,HA,HK1,⟨m1,rfl⟩⟩:=hrel
  cases gk with
  |zero=>exact absurd HA.out (by simp [spec_l2Head.l0])
  |succ k1 =>
   have H:=HA.out
   clear HA
   simp only [spec_l2Head.l0] at H
   by_cases c2:x3_1<(a0.size:Int)
   ·rw [if_pos c2] at H
    have c2b0:decide (x3_1<(a0.size:Int))=true:=decide_eq_true c2
    clear c2
    by_cases c3:0≤x3_1
    ·rw [if_pos c3] at H
     have c3b0:decide (0≤x3_1)=true:=decide_eq_true c3
     clear c3
     by_cases c5:(bt a0 x3_1) ≥ 48
     ·rw [if_pos c5] at H
      have c5b0:decide (48≤(bt a0 x3_1))=true:=decide_eq_true c5
      clear c5
      by_cases c7:(bt a0 x3_1)≤57
      ·rw [if_pos c7] at H
       have c7b0:decide ((bt a0 x3_1)≤57)=true:=decide_eq_true c7
       clear c7
       have H':=Aside0.mk H
       clear H
       have p4:0≤(x3_1:Int):=of_decide_eq_true (by first|(with_reducible assumption)|assumption)
       have q4:x3_1<(a0.size:Int):=of_decide_eq_true (by first|(with_reducible assumption)|assumption)
       have hx4:=bt_at a0 x3_1
       replace p4:=eq_true p4
       replace q4:=eq_true q4
       have p6:0≤(x3_1:Int):=of_decide_eq_true (by first|(with_reducible assumption)|assumption)
       have q6:x3_1<(a0.size:Int):=of_decide_eq_true (by first|(with_reducible assumption)|assumption)
       have hx6:=bt_at a0 x3_1
       replace p6:=eq_true p6
       replace q6:=eq_true q6
       go_wp2
       go_roundg k1
       case measure=>have:=HK1.out; omega
       case rel=>exact ⟨(wrap64 (x3_1+1)),(by first|rfl|(simp; done)|(simp [*]; done)),H',⟨by have:=HK1.out; omega⟩,by repeat (first|exact Drawn0.refl _|apply Drawn0.step)⟩
      ·rw [if_neg c7] at H
       have c7b0:decide ((bt a0 x3_1)≤57)=false:=decide_eq_false c7
       clear c7
       obtain rfl:=Option.some.inj H
       have p4:0≤(x3_1:Int):=of_decide_eq_true (by first|(with_reducible assumption)|assumption)
       have q4:x3_1<(a0.size:Int):=of_decide_eq_true (by first|(with_reducible assumption)|assumption)
       have hx4:=bt_at a0 x3_1
       replace p4:=eq_true p4
       replace q4:=eq_true q4
       have p6:0≤(x3_1:Int):=of_decide_eq_true (by first|(with_reducible assumption)|assumption)
       have q6:x3_1<(a0.size:Int):=of_decide_eq_true (by first|(with_reducible assumption)|assumption)
       have hx6:=bt_at a0 x3_1
       replace p6:=eq_true p6
       replace q6:=eq_true q6
       go_wp2
       go_ret
       exact ⟨by first|rfl|(simp; done)|(simp [*]; done),by repeat (first|exact Drawn0.refl _|apply Drawn0.step)⟩
     ·rw [if_neg c5] at H
      have c5b0:decide (48≤(bt a0 x3_1))=false:=decide_eq_false c5
      clear c5
      obtain rfl:=Option.some.inj H
      have p4:0≤(x3_1:Int):=of_decide_eq_true (by first|(with_reducible assumption)|assumption)
      have q4:x3_1<(a0.size:Int):=of_decide_eq_true (by first|(with_reducible assumption)|assumption)
      have hx4:=bt_at a0 x3_1
      replace p4:=eq_true p4
      replace q4:=eq_true q4
      go_wp2
      go_ret
      exact ⟨by first|rfl|(simp; done)|(simp [*]; done),by repeat (first|exact Drawn0.refl _|apply Drawn0.step)⟩
    ·rw [if_neg c3] at H
     exact absurd H (by simp)
   ·rw [if_neg c2] at H
    have c2b0:decide (x3_1<(a0.size:Int))=false:=decide_eq_false c2
    clear c2
    obtain rfl:=Option.some.inj H
    go_wp2
    go_ret
    exact ⟨by first|rfl|(simp; done)|(simp [*]; done),by repeat (first|exact Drawn0.refl _|apply Drawn0.step)⟩
def spec_Digits.l0:Nat→Int→Bool→ByteArray→Option (ByteArray)
 |0,_,_,_=>none
 |k+1,x0,x3,x4=>if x0=0 then (if x3=true then (if 1+x4.size≤9223372036854775807 then (some ((⟨#[45]⟩:ByteArray) ++ x4)) else (none)) else (some x4)) else (if (Int.tmod x0 10)<0 then ((some (([(wrap64 (48+(wrap64 (-(Int.tmod x0 10))))) % 256]:List Int):List Int)).bind fun y170=>(if (strOfNums y170).size+x4.size≤9223372036854775807 then (spec_Digits.l0 k (wrap64 (Int.tdiv x0 10)) x3 ((strOfNums y170) ++ x4)) else (none))) else ((some (([(wrap64 (48+(Int.tmod x0 10))) % 256]:List Int):List Int)).bind fun y173=>(if (strOfNums y173).size+x4.size≤9223372036854775807 then (spec_Digits.l0 k (wrap64 (Int.tdiv x0 10)) x3 ((strOfNums y173) ++ x4)) else (none))))
def spec_Digits.f (k:Nat) (a0:Int):Option (ByteArray):=if a0=0 then (some (⟨#[48]⟩:ByteArray)) else (spec_Digits.l0 k a0 (decide (a0<0)) (⟨#[]⟩:ByteArray))
theorem spec_Digits.mono_l:∀ k,(∀ y0 y1 y2,LeO (spec_Digits.l0 k y0 y1 y2) (spec_Digits.l0 (k+1) y0 y1 y2))
 |0=>fun _ _ _ r h=>by simp [spec_Digits.l0] at h
 |k+1=>by
  have ih0:=spec_Digits.mono_l k
  ·intro y0 y1 y2
   unfold spec_Digits.l0
   repeat' first
   |(with_reducible exact ih0 _ _ _)
   |(with_reducible exact LeO.refl _)
   |(with_reducible exact LeO.none _)
   |(with_reducible refine LeO.ite ?_ ?_)
   |(with_reducible refine LeO.bind ?_ (fun _=>?_))
   |exact ih0 _ _ _
   |exact LeO.none _
   |refine LeO.ite ?_ ?_
   |refine LeO.bind ?_ (fun _=>?_)
theorem spec_Digits.mono:∀ a0 k,LeO (spec_Digits.f k a0) (spec_Digits.f (k+1) a0):=by
 intro a0 k
 have ih0:=spec_Digits.mono_l k
 unfold spec_Digits.f
 repeat' first
   |(with_reducible exact ih0 _ _ _)
   |(with_reducible exact LeO.refl _)
   |(with_reducible exact LeO.none _)
   |(with_reducible refine LeO.ite ?_ ?_)
   |(with_reducible refine LeO.bind ?_ (fun _=>?_))
   |exact ih0 _ _ _
   |exact LeO.none _
   |refine LeO.ite ?_ ?_
   |refine LeO.bind ?_ (fun _=>?_)
set_option maxHeartbeats 8000000 in
set_option maxRecDepth 100000 in
theorem spec_Digits.calls (k:Nat) (a0:Int) (r:ByteArray) (w:World) (h:spec_Digits.f k a0=some r) :
  Calls Try.prog 95 #[.int .i64 a0] w fun e w'=>e=.returned (.string r)∧Below w.heap.size w w':=by
 have HB:=Aside0.mk (Below.refl w.heap.size w)
 have H:(if a0=0 then (some (⟨#[48]⟩:ByteArray)) else (spec_Digits.l0 k a0 (decide (a0<0)) (⟨#[]⟩:ByteArray)))=some r:=h
 clear h
 by_cases c2:a0=0
 ·rw [if_pos c2] at H
  have c2b0:(a0 == 0)=true:=beq_iff_eq.mpr c2
  have c2b1:(a0 != 0)=false:=bne_eq_false_iff_eq.mpr c2
  clear c2
  obtain rfl:=Option.some.inj H
  go_enter Try.func95,Try.ntmps95
  go_wp2
  all_goals (try (exfalso; first|(have hc_:=of_decide_eq_true c4b0; omega)|(have hc_:=of_decide_eq_false c4b0; omega)))
  go_ret
  exact ⟨by first|rfl|(simp [errW_none,errW_some]<;>rfl)|(simp [*,errW_none,errW_some]<;>rfl),by repeat (first|(with_reducible first|exact HB.out|apply below_alloc|apply pw_below_drewN|apply below_drew1)|exact HB.out)⟩
 ·rw [if_neg c2] at H
  have c2b0:(a0 == 0)=false:=beq_eq_false_iff_ne.mpr c2
  have c2b1:(a0 != 0)=true:=bne_iff_ne.mpr c2
  have H':=Aside0.mk H
  clear H
  go_enter Try.func95,Try.ntmps95
  go_wp2
  go_loopg [0,4] k (fun kq v0 v4 w'=>∃ (x0_1:Int) (x4_1:ByteArray),v0=.int .i64 x0_1∧v4=.string x4_1∧Aside0 (spec_Digits.l0 kq x0_1 (decide (a0<0)) x4_1=some r)∧Aside0 (kq≤k)∧Aside0 (Below w.heap.size w w'))
  case atStart=>exact ⟨(a0),((⟨#[]⟩:ByteArray)),(by first|rfl|(simp; done)|(simp [*]; done)),(by first|rfl|(simp; done)|(simp [*]; done)),H',⟨Nat.le_refl _⟩,⟨by repeat (first|(with_reducible first|exact HB.out|apply below_alloc|apply pw_below_drewN|apply below_drew1)|exact HB.out)⟩⟩
  case round =>
   clear H'
   try clear c2
   try clear c2b0
   try clear c2b1
   try clear p2
   obtain ⟨x0_1,x4_1,rfl,rfl,HA,HK1,HB⟩:=hrel
   cases gk with
   |zero=>exact absurd HA.out (by simp [spec_Digits.l0])
   |succ k1 =>
    have H:=HA.out
    clear HA
    simp only [spec_Digits.l0] at H
    by_cases c3:x0_1=0
    ·rw [if_pos c3] at H
     have c3b0:(x0_1 == 0)=true:=beq_iff_eq.mpr c3
     have c3b1:(x0_1 != 0)=false:=bne_eq_false_iff_eq.mpr c3
     clear c3
     by_cases c4:(decide (a0<0))=true
     ·rw [if_pos c4] at H
      have c4b0:(decide (a0<0))=true:=c4
      clear c4
      by_cases c5:1+x4_1.size≤9223372036854775807
      ·rw [if_pos c5] at H
       have c5b0:=eq_true c5
       have c5b1:decide (1+x4_1.size≤9223372036854775807)=true:=decide_eq_true c5
       try have c5b2:(9223372036854775807<1+x4_1.size)=False:=eq_false (Nat.not_lt.2 c5)
       obtain rfl:=Option.some.inj H
       go_wp2
       all_goals (try (exfalso; first|(have hc_:=of_decide_eq_true c4b0; omega)|(have hc_:=of_decide_eq_false c4b0; omega)))
       go_ret
       exact ⟨by first|rfl|(simp [errW_none,errW_some]<;>rfl)|(simp [*,errW_none,errW_some]<;>rfl),by repeat (first|(with_reducible first|exact HB.out|apply below_alloc|apply pw_below_drewN|apply below_drew1)|exact HB.out)⟩
      ·rw [if_neg c5] at H
       exact absurd H (by simp)
     ·rw [if_neg c4] at H
      have c4b0:(decide (a0<0))=false:=by simpa using c4
      clear c4
      obtain rfl:=Option.some.inj H
      go_wp2
      all_goals (try (exfalso; first|(have hc_:=of_decide_eq_true c4b0; omega)|(have hc_:=of_decide_eq_false c4b0; omega)))
      go_ret
      exact ⟨by first|rfl|(simp [errW_none,errW_some]<;>rfl)|(simp [*,errW_none,errW_some]<;>rfl),by repeat (first|(with_reducible first|exact HB.out|apply below_alloc|apply pw_below_drewN|apply below_drew1)|exact HB.out)⟩
    ·rw [if_neg c3] at H
     have c3b0:(x0_1 == 0)=false:=beq_eq_false_iff_ne.mpr c3
     have c3b1:(x0_1 != 0)=true:=bne_iff_ne.mpr c3
     by_cases c6:(Int.tmod x0_1 10)<0
     ·rw [if_pos c6] at H
      have c6b0:decide ((Int.tmod x0_1 10)<0)=true:=decide_eq_true c6
      clear c6
      obtain ⟨y170,hy170⟩:∃ y_:List Int,y_=(([(wrap64 (48+(wrap64 (-(Int.tmod x0_1 10))))) % 256]:List Int)):=⟨_,rfl⟩
      replace H:(if (strOfNums y170).size+x4_1.size≤9223372036854775807 then (spec_Digits.l0 k1 (wrap64 (Int.tdiv x0_1 10)) (decide (a0<0)) ((strOfNums y170) ++ x4_1)) else (none))=some r:=by first|(rw [hy170]; with_reducible exact H)|(have H2_:=(Option.bind_some _ _).symm.trans H; rw [hy170]; with_reducible exact H2_)|(have H2_:=(Option.bind_some _ _).symm.trans H; with_reducible exact H2_)|with_reducible exact H|(rw [hy170]; exact H)|exact H
      have Ny170:=Aside0.mk hy170
      clear hy170
      by_cases c7:(strOfNums y170).size+x4_1.size≤9223372036854775807
      ·rw [if_pos c7] at H
       have c7b0:=eq_true c7
       have c7b1:decide ((strOfNums y170).size+x4_1.size≤9223372036854775807)=true:=decide_eq_true c7
       try have c7b2:(9223372036854775807<(strOfNums y170).size+x4_1.size)=False:=eq_false (Nat.not_lt.2 c7)
       have H':=Aside0.mk H
       clear H
       go_wp2_with (first|((with_reducible refine gate_dst (N:=21) rfl ?_); refine Kd.R_lit (Kd.int .u8) _ 5 ?hg (N:=21) ?hd (xs:=([(wrap64 (48+(wrap64 (-(Int.tmod x0_1 10))))) % 256]:List Int)) (inner:=[.int .u8 ((wrap64 (48+(wrap64 (-(Int.tmod x0_1 10))))) % 256)]) (ok:=fun _=>True) (okp:=fun _=>True) ?hr ?hp (fun _ hk=>hk) trivial (Below.refl _ _) (Nat.le_refl _) (by simp) ?_; (case hd=>rfl); (case hg=>rfl); (case hr=>first|(go_simp; done)|(go_simp; rfl)); (case hp=>exact (Reps.one (show Kd.M (Kd.int .u8) _ _ _ ((wrap64 (48+(wrap64 (-(Int.tmod x0_1 10))))) % 256) [.int .u8 ((wrap64 (48+(wrap64 (-(Int.tmod x0_1 10))))) % 256)] from rfl) (Reps.none _ _))); intro v171 w8 ho9 hb hg_ hnew_; clear hg_ hnew_; (first|rw [← Ny170.out] at ho9|(simp only [Int.reduceToNat] at ho9; rw [← Ny170.out] at ho9)); have n0_:=Aside0.mk (Kd.R_lower ho9 (below_size (by repeat (first|(with_reducible first|exact HB.out|apply below_alloc|apply pw_below_drewN|apply below_drew1)|exact HB.out)))); have n1_:=Aside0.mk (below_step (by repeat (first|(with_reducible first|exact HB.out|apply below_alloc|apply pw_below_drewN|apply below_drew1)|exact HB.out)) hb); clear HB; have HO172:=n0_; have HB:=n1_; clear n0_ n1_; clear hb ho9; have hcv10:=own_string (P:=Try.prog) Try.underlying82 Try.underlying5 Try.underlying9 (Kd.own_of_R HO172.out)))
       go_roundg k1
       case measure=>have:=HK1.out; omega
       case rel=>exact ⟨(wrap64 (Int.tdiv x0_1 10)),((strOfNums y170) ++ x4_1),(by first|rfl|(simp; done)|(simp [*]; done)),(by first|rfl|(simp; done)|(simp [*]; done)),H',⟨by have:=HK1.out; omega⟩,⟨by repeat (first|(with_reducible first|exact HB.out|apply below_alloc|apply pw_below_drewN|apply below_drew1)|exact HB.out)⟩⟩
      ·rw [if_neg c7] at H
       exact absurd H (by simp)
     ·rw [if_neg c6] at H
      have c6b0:decide ((Int.tmod x0_1 10)<0)=false:=decide_eq_false c6
      clear c6
      obtain ⟨y173,hy173⟩:∃ y_:List Int,y_=(([(wrap64 (48+(Int.tmod x0_1 10))) % 256]:List Int)):=⟨_,rfl⟩
      replace H:(if (strOfNums y173).size+x4_1.size≤9223372036854775807 then (spec_Digits.l0 k1 (wrap64 (Int.tdiv x0_1 10)) (decide (a0<0)) ((strOfNums y173) ++ x4_1)) else (none))=some r:=by first|(rw [hy173]; with_reducible exact H)|(have H2_:=(Option.bind_some _ _).symm.trans H; rw [hy173]; with_reducible exact H2_)|(have H2_:=(Option.bind_some _ _).symm.trans H; with_reducible exact H2_)|with_reducible exact H|(rw [hy173]; exact H)|exact H
      have Ny173:=Aside0.mk hy173
      clear hy173
      by_cases c11:(strOfNums y173).size+x4_1.size≤9223372036854775807
      ·rw [if_pos c11] at H
       have c11b0:=eq_true c11
       have c11b1:decide ((strOfNums y173).size+x4_1.size≤9223372036854775807)=true:=decide_eq_true c11
       try have c11b2:(9223372036854775807<(strOfNums y173).size+x4_1.size)=False:=eq_false (Nat.not_lt.2 c11)
       have H':=Aside0.mk H
       clear H
       go_wp2_with (first|((with_reducible refine gate_dst (N:=21) rfl ?_); refine Kd.R_lit (Kd.int .u8) _ 5 ?hg (N:=21) ?hd (xs:=([(wrap64 (48+(Int.tmod x0_1 10))) % 256]:List Int)) (inner:=[.int .u8 ((wrap64 (48+(Int.tmod x0_1 10))) % 256)]) (ok:=fun _=>True) (okp:=fun _=>True) ?hr ?hp (fun _ hk=>hk) trivial (Below.refl _ _) (Nat.le_refl _) (by simp) ?_; (case hd=>rfl); (case hg=>rfl); (case hr=>first|(go_simp; done)|(go_simp; rfl)); (case hp=>exact (Reps.one (show Kd.M (Kd.int .u8) _ _ _ ((wrap64 (48+(Int.tmod x0_1 10))) % 256) [.int .u8 ((wrap64 (48+(Int.tmod x0_1 10))) % 256)] from rfl) (Reps.none _ _))); intro v174 w12 ho13 hb hg_ hnew_; clear hg_ hnew_; (first|rw [← Ny173.out] at ho13|(simp only [Int.reduceToNat] at ho13; rw [← Ny173.out] at ho13)); have n0_:=Aside0.mk (Kd.R_lower ho13 (below_size (by repeat (first|(with_reducible first|exact HB.out|apply below_alloc|apply pw_below_drewN|apply below_drew1)|exact HB.out)))); have n1_:=Aside0.mk (below_step (by repeat (first|(with_reducible first|exact HB.out|apply below_alloc|apply pw_below_drewN|apply below_drew1)|exact HB.out)) hb); clear HB; have HO175:=n0_; have HB:=n1_; clear n0_ n1_; clear hb ho13; have hcv14:=own_string (P:=Try.prog) Try.underlying82 Try.underlying5 Try.underlying9 (Kd.own_of_R HO175.out)))
       go_roundg k1
       case measure=>have:=HK1.out; omega
       case rel=>exact ⟨(wrap64 (Int.tdiv x0_1 10)),((strOfNums y173) ++ x4_1),(by first|rfl|(simp; done)|(simp [*]; done)),(by first|rfl|(simp; done)|(simp [*]; done)),H',⟨by have:=HK1.out; omega⟩,⟨by repeat (first|(with_reducible first|exact HB.out|apply below_alloc|apply pw_below_drewN|apply below_drew1)|exact HB.out)⟩⟩
      ·rw [if_neg c11] at H
       exact absurd H (by simp)
mutual
def spec_Number.j0:Nat→ByteArray→ByteArray→Bool→Option (Int × Bool)
 |0,_,_,_=>none
 |k+1,x0,x4,x15=>if x15=true then (if 1≤(x4.size:Int) then (spec_Number.j1 k x0 (x4.extract 1 x4.size)) else (none)) else (spec_Number.j1 k x0 x4)
def spec_Number.j1:Nat→ByteArray→ByteArray→Option (Int × Bool)
 |0,_,_=>none
 |k+1,x0,x4=>if (x4.size:Int)<1 then (spec_Number.j2 k x0 x4 true) else (spec_Number.j2 k x0 x4 (decide ((x4.size:Int) > 13)))
def spec_Number.j2:Nat→ByteArray→ByteArray→Bool→Option (Int × Bool)
 |0,_,_,_=>none
 |k+1,x0,x4,x25=>if x25=true then (some (0,false)) else (spec_Number.l0 k x0 x4 0 0)
def spec_Number.l0:Nat→ByteArray→ByteArray→Int→Int→Option (Int × Bool)
 |0,_,_,_,_=>none
 |k+1,x0,x4,x5,x6=>if x6<(x4.size:Int) then (if 0≤x6 then (if (bt x4 x6)<48 then (some (0,false)) else (if (bt x4 x6) > 57 then (some (0,false)) else (spec_Number.l0 k x0 x4 (wrap64 ((wrap64 ((wrap64 (10*x5))+(wrap64 (bt x4 x6))))-48)) (wrap64 (x6+1))))) else (none)) else (if (x4.size:Int)<(x0.size:Int) then (spec_Number.j4 k x0 (wrap64 (-x5))) else (spec_Number.j4 k x0 x5))
def spec_Number.j4:Nat→ByteArray→Int→Option (Int × Bool)
 |0,_,_=>none
 |k+1,x0,x5=>(spec_Digits.f k x5).bind fun t176=>(if t176.toList=x0.toList then ((spec_l1In.f x5 (-1000000000000) 1000000000000).bind fun t177=>(if t177=true then (some (x5,true)) else (some (0,false)))) else (some (0,false)))
end
def spec_Number.f (k:Nat) (a0:ByteArray):Option (Int × Bool):=if (a0.size:Int) > 0 then (if 0<(a0.size:Int) then (spec_Number.j0 k a0 a0 ((bt a0 0) == 45)) else (none)) else (spec_Number.j0 k a0 a0 false)
theorem spec_Number.mono_l:∀ k,(∀ y0 y1 y2,LeO (spec_Number.j0 k y0 y1 y2) (spec_Number.j0 (k+1) y0 y1 y2))∧(∀ y0 y1,LeO (spec_Number.j1 k y0 y1) (spec_Number.j1 (k+1) y0 y1))∧(∀ y0 y1 y2,LeO (spec_Number.j2 k y0 y1 y2) (spec_Number.j2 (k+1) y0 y1 y2))∧(∀ y0 y1 y2 y3,LeO (spec_Number.l0 k y0 y1 y2 y3) (spec_Number.l0 (k+1) y0 y1 y2 y3))∧(∀ y0 y1,LeO (spec_Number.j4 k y0 y1) (spec_Number.j4 (k+1) y0 y1))
 |0=>⟨fun _ _ _ r h=>by simp [spec_Number.j0] at h,fun _ _ r h=>by simp [spec_Number.j1] at h,fun _ _ _ r h=>by simp [spec_Number.j2] at h,fun _ _ _ _ r h=>by simp [spec_Number.l0] at h,fun _ _ r h=>by simp [spec_Number.j4] at h⟩
 |k+1=>by
  obtain ⟨ih0,ih1,ih2,ih3,ih4⟩:=spec_Number.mono_l k
  refine ⟨?_,?_,?_,?_,?_⟩
  ·intro y0 y1 y2
   unfold spec_Number.j0
   repeat' first
   |(with_reducible exact ih0 _ _ _)
   |(with_reducible exact ih1 _ _)
   |(with_reducible exact ih2 _ _ _)
   |(with_reducible exact ih3 _ _ _ _)
   |(with_reducible exact ih4 _ _)
   |(with_reducible exact spec_Digits.mono _ _)
   |(with_reducible exact LeO.refl _)
   |(with_reducible exact LeO.none _)
   |(with_reducible refine LeO.ite ?_ ?_)
   |(with_reducible refine LeO.bind ?_ (fun _=>?_))
   |exact ih0 _ _ _
   |exact ih1 _ _
   |exact ih2 _ _ _
   |exact ih3 _ _ _ _
   |exact ih4 _ _
   |exact spec_Digits.mono _ _
   |exact LeO.none _
   |refine LeO.ite ?_ ?_
   |refine LeO.bind ?_ (fun _=>?_)
  ·intro y0 y1
   unfold spec_Number.j1
   repeat' first
   |(with_reducible exact ih0 _ _ _)
   |(with_reducible exact ih1 _ _)
   |(with_reducible exact ih2 _ _ _)
   |(with_reducible exact ih3 _ _ _ _)
   |(with_reducible exact ih4 _ _)
   |(with_reducible exact spec_Digits.mono _ _)
   |(with_reducible exact LeO.refl _)
   |(with_reducible exact LeO.none _)
   |(with_reducible refine LeO.ite ?_ ?_)
   |(with_reducible refine LeO.bind ?_ (fun _=>?_))
   |exact ih0 _ _ _
   |exact ih1 _ _
   |exact ih2 _ _ _
   |exact ih3 _ _ _ _
   |exact ih4 _ _
   |exact spec_Digits.mono _ _
   |exact LeO.none _
   |refine LeO.ite ?_ ?_
   |refine LeO.bind ?_ (fun _=>?_)
  ·intro y0 y1 y2
   unfold spec_Number.j2
   repeat' first
   |(with_reducible exact ih0 _ _ _)
   |(with_reducible exact ih1 _ _)
   |(with_reducible exact ih2 _ _ _)
   |(with_reducible exact ih3 _ _ _ _)
   |(with_reducible exact ih4 _ _)
   |(with_reducible exact spec_Digits.mono _ _)
   |(with_reducible exact LeO.refl _)
   |(with_reducible exact LeO.none _)
   |(with_reducible refine LeO.ite ?_ ?_)
   |(with_reducible refine LeO.bind ?_ (fun _=>?_))
   |exact ih0 _ _ _
   |exact ih1 _ _
   |exact ih2 _ _ _
   |exact ih3 _ _ _ _
   |exact ih4 _ _
   |exact spec_Digits.mono _ _
   |exact LeO.none _
   |refine LeO.ite ?_ ?_
   |refine LeO.bind ?_ (fun _=>?_)
  ·intro y0 y1 y2 y3
   unfold spec_Number.l0
   repeat' first
   |(with_reducible exact ih0 _ _ _)
   |(with_reducible exact ih1 _ _)
   |(with_reducible exact ih2 _ _ _)
   |(with_reducible exact ih3 _ _ _ _)
   |(with_reducible exact ih4 _ _)
   |(with_reducible exact spec_Digits.mono _ _)
   |(with_reducible exact LeO.refl _)
   |(with_reducible exact LeO.none _)
   |(with_reducible refine LeO.ite ?_ ?_)
   |(with_reducible refine LeO.bind ?_ (fun _=>?_))
   |exact ih0 _ _ _
   |exact ih1 _ _
   |exact ih2 _ _ _
   |exact ih3 _ _ _ _
   |exact ih4 _ _
   |exact spec_Digits.mono _ _
   |exact LeO.none _
   |refine LeO.ite ?_ ?_
   |refine LeO.bind ?_ (fun _=>?_)
  ·intro y0 y1
   unfold spec_Number.j4
   repeat' first
   |(with_reducible exact ih0 _ _ _)
   |(with_reducible exact ih1 _ _)
   |(with_reducible exact ih2 _ _ _)
   |(with_reducible exact ih3 _ _ _ _)
   |(with_reducible exact ih4 _ _)
   |(with_reducible exact spec_Digits.mono _ _)
   |(with_reducible exact LeO.refl _)
   |(with_reducible exact LeO.none _)
   |(with_reducible refine LeO.ite ?_ ?_)
   |(with_reducible refine LeO.bind ?_ (fun _=>?_))
   |exact ih0 _ _ _
   |exact ih1 _ _
   |exact ih2 _ _ _
   |exact ih3 _ _ _ _
   |exact ih4 _ _
   |exact spec_Digits.mono _ _
   |exact LeO.none _
   |refine LeO.ite ?_ ?_
   |refine LeO.bind ?_ (fun _=>?_)
theorem spec_Number.mono:∀ a0 k,LeO (spec_Number.f k a0) (spec_Number.f (k+1) a0):=by
 intro a0 k
 obtain ⟨ih0,ih1,ih2,ih3,ih4⟩:=spec_Number.mono_l k
 unfold spec_Number.f
 repeat' first
   |(with_reducible exact ih0 _ _ _)
   |(with_reducible exact ih1 _ _)
   |(with_reducible exact ih2 _ _ _)
   |(with_reducible exact ih3 _ _ _ _)
   |(with_reducible exact ih4 _ _)
   |(with_reducible exact spec_Digits.mono _ _)
   |(with_reducible exact LeO.refl _)
   |(with_reducible exact LeO.none _)
   |(with_reducible refine LeO.ite ?_ ?_)
   |(with_reducible refine LeO.bind ?_ (fun _=>?_))
   |exact ih0 _ _ _
   |exact ih1 _ _
   |exact ih2 _ _ _
   |exact ih3 _ _ _ _
   |exact ih4 _ _
   |exact spec_Digits.mono _ _
   |exact LeO.none _
   |refine LeO.ite ?_ ?_
   |refine LeO.bind ?_ (fun _=>?_)
set_option maxHeartbeats 8000000 in
set_option maxRecDepth 100000 in
theorem spec_Number.calls (k:Nat) (a0:ByteArray) (r1:Int) (r2:Bool) (w:World) (h:spec_Number.f k a0=some (r1,r2)) :
  Calls Try.prog 78 #[.string a0] w fun e w'=>e=.returned (.tuple #[.int .i64 r1,.bool r2])∧Below w.heap.size w w':=by
 have HB:=Aside0.mk (Below.refl w.heap.size w)
 have H:(if (a0.size:Int) > 0 then (if 0<(a0.size:Int) then (spec_Number.j0 k a0 a0 ((bt a0 0) == 45)) else (none)) else (spec_Number.j0 k a0 a0 false))=some (r1,r2):=h
 clear h
 have HC2:=Aside0.mk H
 clear H
 go_enter Try.func78,Try.ntmps78
 go_upto_region 2 with (fail)
 go_cut [15] (fun v15 wc=>∃ (kq:Nat) (x15_1:Bool),v15=.bool x15_1∧Aside0 (spec_Number.j0 kq a0 a0 x15_1=some (r1,r2))∧Aside0 (kq≤k)∧Aside0 (Below w.heap.size w wc))
 case first =>
  have H:=HC2.out
  clear HC2
  by_cases c3:(a0.size:Int) > 0
  ·rw [if_pos c3] at H
   have c3b0:decide (0<(a0.size:Int))=true:=decide_eq_true c3
   have c3b1:decide (0<a0.size)=true:=decide_eq_true (by omega)
   clear c3
   (first|rw [c3b0]|rw [c3b1]|(simp only [i64_w,i32_w]; rw [c3b0])|skip)
   by_cases c4:0<(a0.size:Int)
   ·rw [if_pos c4] at H
    have c4b0:decide (0<(a0.size:Int))=true:=decide_eq_true c4
    have c4b1:decide (0<a0.size)=true:=decide_eq_true (by omega)
    clear c4
    have H':=Aside0.mk H
    clear H
    have p5:0≤(0:Int):=(by omega)
    have q5:0<a0.size:=(by have:(0:Int)<(a0.size:Int):=of_decide_eq_true (by first|(with_reducible assumption)|assumption); omega)
    have hx5:∀ h:0<a0.size,((a0[0]'h).toNat:Int)=bt a0 0:=bt_at a0 0
    clear p5
    have qi5:(0<(a0.size:Int))=True:=eq_true (of_decide_eq_true (by first|(with_reducible assumption)|assumption))
    replace q5:=eq_true q5
    go_wp2
    go_meet
    case rel=>exact ⟨_,(((bt a0 0) == 45)),(by first|rfl|(simp; done)|(simp [*]; done)),H',⟨by first|omega|exact Nat.le_refl _⟩,⟨by repeat (first|(with_reducible first|exact HB.out|apply below_alloc|apply pw_below_drewN|apply below_drew1)|exact HB.out)⟩⟩
   ·rw [if_neg c4] at H
    exact absurd H (by simp)
  ·rw [if_neg c3] at H
   have c3b0:decide (0<(a0.size:Int))=false:=decide_eq_false c3
   have c3b1:decide (0<a0.size)=false:=decide_eq_false (by omega)
   clear c3
   (first|rw [c3b0]|rw [c3b1]|(simp only [i64_w,i32_w]; rw [c3b0])|skip)
   have H':=Aside0.mk H
   clear H
   go_wp2
   go_meet
   case rel=>exact ⟨_,(false),(by first|rfl|(simp; done)|(simp [*]; done)),H',⟨by first|omega|exact Nat.le_refl _⟩,⟨by repeat (first|(with_reducible first|exact HB.out|apply below_alloc|apply pw_below_drewN|apply below_drew1)|exact HB.out)⟩⟩
 case rest =>
  clear HC2
  try clear p2
  try clear c3
  try clear c3b0
  try clear c3b1
  try clear c4
  try clear c4b0
  try clear c4b1
  try clear p5
  try clear q5
  try clear hx5
  try clear qi5
  try clear p5
  try clear q5
  obtain ⟨kq,x15_1,rfl,HA,HJ1,HB⟩:=hcut
  cases kq with
  |zero=>exact absurd HA.out (by simp [spec_Number.j0])
  |succ kj1 =>
   have H:=HA.out
   clear HA
   simp only [spec_Number.j0] at H
   have HC6:=Aside0.mk H
   clear H
   go_upto_if 15 with (fail)
   go_cut [4] (fun v4 wc=>∃ (kq:Nat) (x4_5:ByteArray),v4=.string x4_5∧Aside0 (spec_Number.j1 kq a0 x4_5=some (r1,r2))∧Aside0 (kq≤kj1)∧Aside0 (Below w.heap.size w wc))
   case first =>
    have H:=HC6.out
    clear HC6
    by_cases c7:x15_1=true
    ·subst c7
     have H1:(if 1≤(a0.size:Int) then (spec_Number.j1 kj1 a0 (a0.extract 1 a0.size)) else (none))=some (r1,r2):=by rw [if_pos rfl] at H; exact H
     clear H
     have H:=H1
     clear H1
     by_cases c8:1≤(a0.size:Int)
     ·rw [if_pos c8] at H
      have c8b0:=eq_true c8
      have c8b1:decide (1≤(a0.size:Int))=true:=decide_eq_true c8
      clear c8
      have H':=Aside0.mk H
      clear H
      go_wp2
      go_meet
      case rel=>exact ⟨_,(a0.extract 1 a0.size),(by first|rfl|(simp; done)|(simp [*]; done)),H',⟨by have:=HJ1.out; first|omega|exact Nat.le_refl _⟩,⟨by repeat (first|(with_reducible first|exact HB.out|apply below_alloc|apply pw_below_drewN|apply below_drew1)|exact HB.out)⟩⟩
     ·rw [if_neg c8] at H
      exact absurd H (by simp)
    ·replace c7:=Bool.eq_false_iff.mpr c7
     subst c7
     have H1:(spec_Number.j1 kj1 a0 a0)=some (r1,r2):=by rw [if_neg (show ¬ (false=true) by decide)] at H; exact H
     clear H
     have H:=H1
     clear H1
     have H':=Aside0.mk H
     clear H
     go_wp2
     go_meet
     case rel=>exact ⟨_,(a0),(by first|rfl|(simp; done)|(simp [*]; done)),H',⟨by have:=HJ1.out; first|omega|exact Nat.le_refl _⟩,⟨by repeat (first|(with_reducible first|exact HB.out|apply below_alloc|apply pw_below_drewN|apply below_drew1)|exact HB.out)⟩⟩
   case rest =>
    clear HC6
    try clear p2
    try clear c3
    try clear c3b0
    try clear c3b1
    try clear c4
    try clear c4b0
    try clear c4b1
    try clear p5
    try clear q5
    try clear hx5
    try clear qi5
    try clear c7
    try clear c8
    try clear c8b0
    try clear c8b1
    try clear p2
    try clear p5
    try clear q5
    obtain ⟨kq,x4_5,rfl,HA,HJ5,HB⟩:=hcut
    cases kq with
    |zero=>exact absurd HA.out (by simp [spec_Number.j1])
    |succ kj5 =>
     have H:=HA.out
     clear HA
     simp only [spec_Number.j1] at H
     have HC9:=Aside0.mk H
     clear H
     go_upto_region 4 with (fail)
     go_cut [25] (fun v25 wc=>∃ (kq:Nat) (x25_8:Bool),v25=.bool x25_8∧Aside0 (spec_Number.j2 kq a0 x4_5 x25_8=some (r1,r2))∧Aside0 (kq≤kj5)∧Aside0 (Below w.heap.size w wc))
     case first =>
      have H:=HC9.out
      clear HC9
      by_cases c10:(x4_5.size:Int)<1
      ·rw [if_pos c10] at H
       have c10b0:decide ((x4_5.size:Int)<1)=true:=decide_eq_true c10
       have c10b1:decide (x4_5.size<1)=true:=decide_eq_true (by omega)
       clear c10
       (first|rw [c10b0]|rw [c10b1]|(simp only [i64_w,i32_w]; rw [c10b0])|skip)
       have H':=Aside0.mk H
       clear H
       go_wp2
       go_meet
       case rel=>exact ⟨_,(true),(by first|rfl|(simp; done)|(simp [*]; done)),H',⟨by have:=HJ1.out; have:=HJ5.out; first|omega|exact Nat.le_refl _⟩,⟨by repeat (first|(with_reducible first|exact HB.out|apply below_alloc|apply pw_below_drewN|apply below_drew1)|exact HB.out)⟩⟩
      ·rw [if_neg c10] at H
       have c10b0:decide ((x4_5.size:Int)<1)=false:=decide_eq_false c10
       have c10b1:decide (x4_5.size<1)=false:=decide_eq_false (by omega)
       clear c10
       (first|rw [c10b0]|rw [c10b1]|(simp only [i64_w,i32_w]; rw [c10b0])|skip)
       have H':=Aside0.mk H
       clear H
       go_wp2
       go_meet
       case rel=>exact ⟨_,(decide ((x4_5.size:Int) > 13)),(by first|rfl|(simp; done)|(simp [*]; done)),H',⟨by have:=HJ1.out; have:=HJ5.out; first|omega|exact Nat.le_refl _⟩,⟨by repeat (first|(with_reducible first|exact HB.out|apply below_alloc|apply pw_below_drewN|apply below_drew1)|exact HB.out)⟩⟩
     case rest =>
      clear HC9
      try clear c1
      try clear p2
      try clear c3
      try clear c3b0
      try clear c3b1
      try clear c4
      try clear c4b0
      try clear c4b1
      try clear p5
      try clear q5
      try clear hx5
      try clear qi5
      try clear c7
      try clear c8
      try clear c8b0
      try clear c8b1
      try clear c10
      try clear c10b0
      try clear c10b1
      try clear p2
      try clear p5
      try clear q5
      obtain ⟨kq,x25_8,rfl,HA,HJ8,HB⟩:=hcut
      cases kq with
      |zero=>exact absurd HA.out (by simp [spec_Number.j2])
      |succ kj8 =>
       have H:=HA.out
       clear HA
       simp only [spec_Number.j2] at H
       by_cases c11:x25_8=true
       ·subst c11
        have H1:(some (0,false))=some (r1,r2):=by rw [if_pos rfl] at H; exact H
        clear H
        have H:=H1
        clear H1
        simp only [Option.some.injEq,Prod.mk.injEq] at H
        obtain ⟨rfl,rfl⟩:=H
        go_wp2
        go_ret2
        exact ⟨by first|rfl|(simp [errW_none,errW_some]<;>rfl)|(simp [*,errW_none,errW_some]<;>rfl),by repeat (first|(with_reducible first|exact HB.out|apply below_alloc|apply pw_below_drewN|apply below_drew1)|exact HB.out)⟩
       ·replace c11:=Bool.eq_false_iff.mpr c11
        subst c11
        have H1:(spec_Number.l0 kj8 a0 x4_5 0 0)=some (r1,r2):=by rw [if_neg (show ¬ (false=true) by decide)] at H; exact H
        clear H
        have H:=H1
        clear H1
        have H':=Aside0.mk H
        clear H
        go_wp2
        go_loopg [5,6] kj8 (fun kq v5 v6 w'=>∃ (x5_4:Int) (x6_4:Int),v5=.int .i64 x5_4∧v6=.int .i64 x6_4∧Aside0 (spec_Number.l0 kq a0 x4_5 x5_4 x6_4=some (r1,r2))∧Aside0 (kq≤kj8)∧Aside0 (Below w.heap.size w w'))
        case atStart=>exact ⟨(0),(0),(by first|rfl|(simp; done)|(simp [*]; done)),(by first|rfl|(simp; done)|(simp [*]; done)),H',⟨Nat.le_refl _⟩,⟨by repeat (first|(with_reducible first|exact HB.out|apply below_alloc|apply pw_below_drewN|apply below_drew1)|exact HB.out)⟩⟩
        case round =>
         clear H'
         try clear c1
         try clear p2
         try clear c3
         try clear c3b0
         try clear c3b1
         try clear c4
         try clear c4b0
         try clear c4b1
         try clear p5
         try clear q5
         try clear hx5
         try clear qi5
         try clear c7
         try clear c8
         try clear c8b0
         try clear c8b1
         try clear c10
         try clear c10b0
         try clear c10b1
         try clear c11
         try clear p2
         try clear p5
         try clear q5
         obtain ⟨x5_4,x6_4,rfl,rfl,HA,HK4,HB⟩:=hrel
         cases gk with
         |zero=>exact absurd HA.out (by simp [spec_Number.l0])
         |succ k4 =>
          have H:=HA.out
          clear HA
          simp only [spec_Number.l0] at H
          by_cases c12:x6_4<(x4_5.size:Int)
          ·rw [if_pos c12] at H
           have c12b0:decide (x6_4<(x4_5.size:Int))=true:=decide_eq_true c12
           clear c12
           by_cases c13:0≤x6_4
           ·rw [if_pos c13] at H
            have c13b0:decide (0≤x6_4)=true:=decide_eq_true c13
            clear c13
            by_cases c15:(bt x4_5 x6_4)<48
            ·rw [if_pos c15] at H
             have c15b0:decide ((bt x4_5 x6_4)<48)=true:=decide_eq_true c15
             clear c15
             simp only [Option.some.injEq,Prod.mk.injEq] at H
             obtain ⟨rfl,rfl⟩:=H
             have p14:0≤(x6_4:Int):=of_decide_eq_true (by first|(with_reducible assumption)|assumption)
             have q14:x6_4<(x4_5.size:Int):=of_decide_eq_true (by first|(with_reducible assumption)|assumption)
             have hx14:=bt_at x4_5 x6_4
             replace p14:=eq_true p14
             replace q14:=eq_true q14
             go_wp2
             go_ret2
             exact ⟨by first|rfl|(simp [errW_none,errW_some]<;>rfl)|(simp [*,errW_none,errW_some]<;>rfl),by repeat (first|(with_reducible first|exact HB.out|apply below_alloc|apply pw_below_drewN|apply below_drew1)|exact HB.out)⟩
            ·rw [if_neg c15] at H
             have c15b0:decide ((bt x4_5 x6_4)<48)=false:=decide_eq_false c15
             clear c15
             by_cases c17:(bt x4_5 x6_4) > 57
             ·rw [if_pos c17] at H
              have c17b0:decide (57<(bt x4_5 x6_4))=true:=decide_eq_true c17
              clear c17
              simp only [Option.some.injEq,Prod.mk.injEq] at H
              obtain ⟨rfl,rfl⟩:=H
              have p14:0≤(x6_4:Int):=of_decide_eq_true (by first|(with_reducible assumption)|assumption)
              have q14:x6_4<(x4_5.size:Int):=of_decide_eq_true (by first|(with_reducible assumption)|assumption)
              have hx14:=bt_at x4_5 x6_4
              replace p14:=eq_true p14
              replace q14:=eq_true q14
              have p16:0≤(x6_4:Int):=of_decide_eq_true (by first|(with_reducible assumption)|assumption)
              have q16:x6_4<(x4_5.size:Int):=of_decide_eq_true (by first|(with_reducible assumption)|assumption)
              have hx16:=bt_at x4_5 x6_4
              replace p16:=eq_true p16
              replace q16:=eq_true q16
              go_wp2
              go_ret2
              exact ⟨by first|rfl|(simp [errW_none,errW_some]<;>rfl)|(simp [*,errW_none,errW_some]<;>rfl),by repeat (first|(with_reducible first|exact HB.out|apply below_alloc|apply pw_below_drewN|apply below_drew1)|exact HB.out)⟩
             ·rw [if_neg c17] at H
              have c17b0:decide (57<(bt x4_5 x6_4))=false:=decide_eq_false c17
              clear c17
              have H':=Aside0.mk H
              clear H
              have p14:0≤(x6_4:Int):=of_decide_eq_true (by first|(with_reducible assumption)|assumption)
              have q14:x6_4<(x4_5.size:Int):=of_decide_eq_true (by first|(with_reducible assumption)|assumption)
              have hx14:=bt_at x4_5 x6_4
              replace p14:=eq_true p14
              replace q14:=eq_true q14
              have p16:0≤(x6_4:Int):=of_decide_eq_true (by first|(with_reducible assumption)|assumption)
              have q16:x6_4<(x4_5.size:Int):=of_decide_eq_true (by first|(with_reducible assumption)|assumption)
              have hx16:=bt_at x4_5 x6_4
              replace p16:=eq_true p16
              replace q16:=eq_true q16
              have p18:0≤(x6_4:Int):=of_decide_eq_true (by first|(with_reducible assumption)|assumption)
              have q18:x6_4<(x4_5.size:Int):=of_decide_eq_true (by first|(with_reducible assumption)|assumption)
              have hx18:=bt_at x4_5 x6_4
              replace p18:=eq_true p18
              replace q18:=eq_true q18
              go_wp2
              go_roundg k4
              case measure=>have:=HJ1.out; have:=HJ5.out; have:=HJ8.out; have:=HK4.out; omega
              case rel=>exact ⟨(wrap64 ((wrap64 ((wrap64 (10*x5_4))+(wrap64 (bt x4_5 x6_4))))-48)),(wrap64 (x6_4+1)),(by first|rfl|(simp; done)|(simp [*]; done)),(by first|rfl|(simp; done)|(simp [*]; done)),H',⟨by have:=HJ1.out; have:=HJ5.out; have:=HJ8.out; have:=HK4.out; omega⟩,⟨by repeat (first|(with_reducible first|exact HB.out|apply below_alloc|apply pw_below_drewN|apply below_drew1)|exact HB.out)⟩⟩
           ·rw [if_neg c13] at H
            exact absurd H (by simp)
          ·rw [if_neg c12] at H
           have c12b0:decide (x6_4<(x4_5.size:Int))=false:=decide_eq_false c12
           clear c12
           have HC19:=Aside0.mk H
           clear H
           go_upto_if 54 with (fail)
           go_cut [5] (fun v5 wc=>∃ (kq:Nat) (x5_18:Int),v5=.int .i64 x5_18∧Aside0 (spec_Number.j4 kq a0 x5_18=some (r1,r2))∧Aside0 (kq≤k4)∧Aside0 (Below w.heap.size w wc))
           case first =>
            have H:=HC19.out
            clear HC19
            by_cases c20:(x4_5.size:Int)<(a0.size:Int)
            ·rw [if_pos c20] at H
             have c20b0:decide ((x4_5.size:Int)<(a0.size:Int))=true:=decide_eq_true c20
             have c20b1:decide (x4_5.size<a0.size)=true:=decide_eq_true (Int.ofNat_lt.mp c20)
             clear c20
             (first|rw [c20b0]|rw [c20b1]|(simp only [i64_w,i32_w]; rw [c20b0])|skip)
             have H':=Aside0.mk H
             clear H
             go_wp2
             go_meet
             case rel=>exact ⟨_,(wrap64 (-x5_4)),(by first|rfl|(simp; done)|(simp [*]; done)),H',⟨by have:=HJ1.out; have:=HJ5.out; have:=HJ8.out; have:=HK4.out; first|omega|exact Nat.le_refl _⟩,⟨by repeat (first|(with_reducible first|exact HB.out|apply below_alloc|apply pw_below_drewN|apply below_drew1)|exact HB.out)⟩⟩
            ·rw [if_neg c20] at H
             have c20b0:decide ((x4_5.size:Int)<(a0.size:Int))=false:=decide_eq_false c20
             have c20b1:decide (x4_5.size<a0.size)=false:=decide_eq_false (fun h=>c20 (Int.ofNat_lt.mpr h))
             clear c20
             (first|rw [c20b0]|rw [c20b1]|(simp only [i64_w,i32_w]; rw [c20b0])|skip)
             have H':=Aside0.mk H
             clear H
             go_wp2
             go_meet
             case rel=>exact ⟨_,(x5_4),(by first|rfl|(simp; done)|(simp [*]; done)),H',⟨by have:=HJ1.out; have:=HJ5.out; have:=HJ8.out; have:=HK4.out; first|omega|exact Nat.le_refl _⟩,⟨by repeat (first|(with_reducible first|exact HB.out|apply below_alloc|apply pw_below_drewN|apply below_drew1)|exact HB.out)⟩⟩
           case rest =>
            clear HC19
            try clear c1
            try clear p1
            try clear q1
            try clear hx1
            try clear c2
            try clear p2
            try clear c3
            try clear c3b0
            try clear c3b1
            try clear c4
            try clear c4b0
            try clear c4b1
            try clear p5
            try clear q5
            try clear hx5
            try clear qi5
            try clear p6
            try clear c7
            try clear c8
            try clear c8b0
            try clear c8b1
            try clear c10
            try clear c10b0
            try clear c10b1
            try clear c11
            try clear c12
            try clear c12b0
            try clear c13
            try clear c13b0
            try clear p14
            try clear q14
            try clear hx14
            try clear c15
            try clear c15b0
            try clear p16
            try clear q16
            try clear hx16
            try clear c17
            try clear c17b0
            try clear p18
            try clear q18
            try clear hx18
            try clear c20
            try clear c20b0
            try clear c20b1
            try clear p14
            try clear p16
            try clear p18
            try clear p2
            try clear p5
            try clear q14
            try clear q16
            try clear q18
            try clear q5
            obtain ⟨kq,x5_18,rfl,HA,HJ18,HB⟩:=hcut
            cases kq with
            |zero=>exact absurd HA.out (by simp [spec_Number.j4])
            |succ kj18 =>
             have H:=HA.out
             clear HA
             simp only [spec_Number.j4] at H
             replace H:=Option.bind_eq_some_iff.mp H
             obtain ⟨t176,A210,H⟩:=H
             replace H:(if t176.toList=a0.toList then ((spec_l1In.f x5_18 (-1000000000000) 1000000000000).bind fun t177=>(if t177=true then (some (x5_18,true)) else (some (0,false)))) else (some (0,false)))=some (r1,r2):=H
             have A21:=Aside0.mk A210
             clear A210
             by_cases c22:t176.toList=a0.toList
             ·rw [if_pos c22] at H
              have c22b0:(t176.toList == a0.toList)=true:=beq_iff_eq.mpr c22
              have c22b1:(t176.toList != a0.toList)=false:=bne_eq_false_iff_eq.mpr c22
              clear c22
              replace H:=Option.bind_eq_some_iff.mp H
              obtain ⟨t177,A230,H⟩:=H
              replace H:(if t177=true then (some (x5_18,true)) else (some (0,false)))=some (r1,r2):=H
              have A23:=Aside0.mk A230
              clear A230
              have HC24:=Aside0.mk H
              clear H
              go_upto_if 65 with (first|((with_reducible refine gate_callee (f:=95) rfl ?_); refine goesL_ (some 58) rfl rfl Try.func95 (by kernel_rfl) rfl #[.int .i64 x5_18] rfl (by (try simp only [List.map_toArray,List.map_cons,List.map_nil]); first|done|rfl|(simp only [List.length_drop,List.length_take]; rfl)) ?_; (with_reducible refine (spec_Digits.calls kj18 x5_18 t176 _ A21.out).mono ?_); rintro e w25 ⟨rfl,hb⟩; refine ⟨_,rfl,?_⟩; have n0_:=Aside0.mk (below_step (by repeat (first|(with_reducible first|exact HB.out|apply below_alloc|apply pw_below_drewN|apply below_drew1)|exact HB.out)) hb); clear HB; have HB:=n0_; clear n0_; (try clear hb); (try clear hb2); (try clear hk); (try clear hi))|(go_at_call 47; (with_reducible refine (spec_l1In.calls x5_18 (-1000000000000) 1000000000000 t177 _ A23.out).mono ?_); rintro e w' ⟨rfl,⟨nd,rfl⟩⟩))
              (try simp only [Act.put,List.setIfInBounds_toArray,List.set_cons_zero,List.set_cons_succ])
              have H:=HC24.out
              clear HC24
              by_cases c26:t177=true
              ·subst c26
               have H1:(some (x5_18,true))=some (r1,r2):=by rw [if_pos rfl] at H; exact H
               clear H
               have H:=H1
               clear H1
               simp only [Option.some.injEq,Prod.mk.injEq] at H
               obtain ⟨rfl,rfl⟩:=H
               go_wp2
               go_ret2
               exact ⟨by first|rfl|(simp [errW_none,errW_some]<;>rfl)|(simp [*,errW_none,errW_some]<;>rfl),by repeat (first|(with_reducible first|exact HB.out|apply below_alloc|apply pw_below_drewN|apply below_drew1)|exact HB.out)⟩
              ·replace c26:=Bool.eq_false_iff.mpr c26
               subst c26
               have H1:(some (0,false))=some (r1,r2):=by rw [if_neg (show ¬ (false=true) by decide)] at H; exact H
               clear H
               have H:=H1
               clear H1
               simp only [Option.some.injEq,Prod.mk.injEq] at H
               obtain ⟨rfl,rfl⟩:=H
               go_wp2
               go_ret2
               exact ⟨by first|rfl|(simp [errW_none,errW_some]<;>rfl)|(simp [*,errW_none,errW_some]<;>rfl),by repeat (first|(with_reducible first|exact HB.out|apply below_alloc|apply pw_below_drewN|apply below_drew1)|exact HB.out)⟩
             ·rw [if_neg c22] at H
              have c22b0:(t176.toList == a0.toList)=false:=beq_eq_false_iff_ne.mpr c22
              have c22b1:(t176.toList != a0.toList)=true:=bne_iff_ne.mpr c22
              simp only [Option.some.injEq,Prod.mk.injEq] at H
              obtain ⟨rfl,rfl⟩:=H
              go_wp2_with (first|((with_reducible refine gate_callee (f:=95) rfl ?_); refine goesL_ (some 58) rfl rfl Try.func95 (by kernel_rfl) rfl #[.int .i64 x5_18] rfl (by (try simp only [List.map_toArray,List.map_cons,List.map_nil]); first|done|rfl|(simp only [List.length_drop,List.length_take]; rfl)) ?_; (with_reducible refine (spec_Digits.calls kj18 x5_18 t176 _ A21.out).mono ?_); rintro e w27 ⟨rfl,hb⟩; refine ⟨_,rfl,?_⟩; have n0_:=Aside0.mk (below_step (by repeat (first|(with_reducible first|exact HB.out|apply below_alloc|apply pw_below_drewN|apply below_drew1)|exact HB.out)) hb); clear HB; have HB:=n0_; clear n0_; (try clear hb); (try clear hb2); (try clear hk); (try clear hi)))
              go_ret2
              exact ⟨by first|rfl|(simp [errW_none,errW_some]<;>rfl)|(simp [*,errW_none,errW_some]<;>rfl),by repeat (first|(with_reducible first|exact HB.out|apply below_alloc|apply pw_below_drewN|apply below_drew1)|exact HB.out)⟩
end
end Go.Proofs.Ytdlhidjphaaklaa.P
