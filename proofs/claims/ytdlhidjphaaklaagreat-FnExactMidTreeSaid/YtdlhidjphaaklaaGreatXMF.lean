/- Part 6 of the proof of the law FnExactMidTree: what it leans on, in build order. No condition. (Merged by wip/reap.py.) -/
import Derived.Test.YtdlhidjphaaklaaGreatXME
import Derived.Test.YtdlhidjphaaklaaGreatRows
import Derived.ProofKit
import Derived.OpenShut
import Derived.ChangeOld
import Derived.ChangeSlices
import Derived.DataReads
import Derived.SizedLaws
import Derived.Deep.RegionHeld3
import Derived.JoinedOf
import Derived.KernelRfl
set_option linter.unusedVariables false
set_option linter.unusedSimpArgs false
section
namespace Go.Proofs.YtdlhidjphaaklaaGreat.P
open Go.RowKit Go.Proofs.YtdlhidjphaaklaaGreatW.PrintWords Go.Proofs.YtdlhidjphaaklaaGreatW.PrintLast Go.Proofs.YtdlhidjphaaklaaGreatW.PrintMore
attribute [local go_sem] max2_int min2_int max_two min_two max_three min_three max_four min_four
noncomputable section
def laws_toMetric.f (a0_0:ByteArray) (a0_1:Int) (a0_2:Int):Option (ByteArray × Int × Int):=some (a0_0,a0_1,a0_2)
set_option maxHeartbeats 8000000 in
set_option maxRecDepth 100000 in
theorem laws_toMetric.calls (a0_0:ByteArray) (a0_1:Int) (a0_2:Int) (r1:ByteArray) (r2:Int) (r3:Int) (w:World) (h:laws_toMetric.f a0_0 a0_1 a0_2=some (r1,r2,r3)) :
  Calls Tryz.prog 118 #[.agg #[.string a0_0,.int .i64 a0_1,.int .i64 a0_2]] w fun e w'=>e=.returned (.agg #[.string r1,.int .i64 r2,.int .i64 r3])∧Below w.heap.size w w':=by
 have hu113:=Tryz.underlying113
 have hu61:=Tryz.underlying61
 have HB:=Aside0.mk (Below.refl w.heap.size w)
 have H:(some (a0_0,a0_1,a0_2))=some (r1,r2,r3):=h
 clear h
 simp only [Option.some.injEq,Prod.mk.injEq] at H
 obtain ⟨rfl,rfl,rfl⟩:=H
 go_enter Tryz.func118,Tryz.ntmps118
 go_wp2_with (first|((with_reducible refine gate_dst (N:=1) rfl ?_);refine box_event ?hg (N:=1) ?hd (cs:=#[.string a0_0,.int .i64 a0_1,.int .i64 a0_2]) (t:=113) ?hr ?_;(case hd=>rfl);(case hg=>rfl);(case hr=>first|(go_simp;done)|(go_simp;rfl));intro gb782 hg w2 hbox hb;have n0_:=Aside0.mk (below_step (by repeat (first|(with_reducible first|exact HB.out|apply below_alloc|apply pw_below_drewN|apply below_drew1)|exact HB.out)) hb);have n1_:=Aside0.mk (hbox);have n2_:=Aside0.mk ((by rw [hg];exact (below_size (by repeat (first|(with_reducible first|exact HB.out|apply below_alloc|apply pw_below_drewN|apply below_drew1)|exact HB.out))):w.heap.size≤gb782));have n3_:=Aside0.mk ((by rw [hg];exact (below_size (by repeat (first|(with_reducible first|exact HB.out|apply below_alloc|apply pw_below_drewN|apply below_drew1)|exact HB.out))):w.heap.size≤gb782));clear HB;have HB:=n0_;have BK782:=n1_;have GW782:=n2_;have GE782:=n3_;clear n0_ n1_ n2_ n3_;clear hb hbox hg)|((with_reducible refine gate_dst (N:=2) rfl ?_);refine box_event ?hg (N:=2) ?hd (cs:=#[.string (⟨#[]⟩:ByteArray),.int .i64 0,.int .i64 0]) (t:=61) ?hr ?_;(case hd=>rfl);(case hg=>rfl);(case hr=>first|(go_simp;done)|(go_simp;rfl));intro gb783 hg w3 hbox hb;have n0_:=Aside0.mk (blk_below (g:=gb782) (o:=.cells #[.string a0_0,.int .i64 a0_1,.int .i64 a0_2] 113 (0,0)) (by exact BK782.out) hb);have n1_:=Aside0.mk (below_step (by repeat (first|(with_reducible first|exact HB.out|apply below_alloc|apply pw_below_drewN|apply below_drew1|refine below_set ?_ GE782.out)|exact HB.out)) hb);have n2_:=Aside0.mk (hbox);have n3_:=Aside0.mk ((by rw [hg];exact (below_size (by repeat (first|(with_reducible first|exact HB.out|apply below_alloc|apply pw_below_drewN|apply below_drew1|refine below_set ?_ GE782.out)|exact HB.out))):w.heap.size≤gb783));have n4_:=Aside0.mk ((by rw [hg];exact (below_size (by repeat (first|(with_reducible first|exact HB.out|apply below_alloc|apply pw_below_drewN|apply below_drew1|refine below_set ?_ GE782.out)|exact HB.out))):w.heap.size≤gb783));have n5_:=Aside0.mk ((by rw [hg];exact Nat.ne_of_lt (blk_lt (g:=gb782) (o:=.cells #[.string a0_0,.int .i64 a0_1,.int .i64 a0_2] 113 (0,0)) (by exact BK782.out)):gb782 ≠ gb783));have n6_:=Aside0.mk ((by rw [hg];exact Nat.ne_of_gt (blk_lt (g:=gb782) (o:=.cells #[.string a0_0,.int .i64 a0_1,.int .i64 a0_2] 113 (0,0)) (by exact BK782.out)):gb783 ≠ gb782));clear BK782;clear HB;have BK782:=n0_;have HB:=n1_;have BK783:=n2_;have GW783:=n3_;have GE783:=n4_;have NB782_783:=n5_;have NB783_782:=n6_;clear n0_ n1_ n2_ n3_ n4_ n5_ n6_;clear hb hbox hg)|((with_reducible refine gate_dst (N:=3) rfl ?_);refine box_event ?hg (N:=3) ?hd (cs:=#[.string (⟨#[]⟩:ByteArray),.int .i64 0,.int .i64 0]) (t:=61) ?hr ?_;(case hd=>rfl);(case hg=>rfl);(case hr=>first|(go_simp;done)|(go_simp;rfl));intro gb784 hg w4 hbox hb;have n0_:=Aside0.mk (blk_below (g:=gb782) (o:=.cells #[.string a0_0,.int .i64 a0_1,.int .i64 a0_2] 113 (0,0)) (by exact BK782.out) hb);have n1_:=Aside0.mk (blk_below (g:=gb783) (o:=.cells #[.string (⟨#[]⟩:ByteArray),.int .i64 0,.int .i64 0] 61 (0,0)) (by exact BK783.out) hb);have n2_:=Aside0.mk (below_step (by repeat (first|(with_reducible first|exact HB.out|apply below_alloc|apply pw_below_drewN|apply below_drew1|refine below_set ?_ GE782.out|refine below_set ?_ GE783.out)|exact HB.out)) hb);have n3_:=Aside0.mk (hbox);have n4_:=Aside0.mk ((by rw [hg];exact (below_size (by repeat (first|(with_reducible first|exact HB.out|apply below_alloc|apply pw_below_drewN|apply below_drew1|refine below_set ?_ GE782.out|refine below_set ?_ GE783.out)|exact HB.out))):w.heap.size≤gb784));have n5_:=Aside0.mk ((by rw [hg];exact (below_size (by repeat (first|(with_reducible first|exact HB.out|apply below_alloc|apply pw_below_drewN|apply below_drew1|refine below_set ?_ GE782.out|refine below_set ?_ GE783.out)|exact HB.out))):w.heap.size≤gb784));have n6_:=Aside0.mk ((by rw [hg];exact Nat.ne_of_lt (blk_lt (g:=gb782) (o:=.cells #[.string a0_0,.int .i64 a0_1,.int .i64 a0_2] 113 (0,0)) (by exact BK782.out)):gb782 ≠ gb784));have n7_:=Aside0.mk ((by rw [hg];exact Nat.ne_of_gt (blk_lt (g:=gb782) (o:=.cells #[.string a0_0,.int .i64 a0_1,.int .i64 a0_2] 113 (0,0)) (by exact BK782.out)):gb784 ≠ gb782));have n8_:=Aside0.mk ((by rw [hg];exact Nat.ne_of_lt (blk_lt (g:=gb783) (o:=.cells #[.string (⟨#[]⟩:ByteArray),.int .i64 0,.int .i64 0] 61 (0,0)) (by exact BK783.out)):gb783 ≠ gb784));have n9_:=Aside0.mk ((by rw [hg];exact Nat.ne_of_gt (blk_lt (g:=gb783) (o:=.cells #[.string (⟨#[]⟩:ByteArray),.int .i64 0,.int .i64 0] 61 (0,0)) (by exact BK783.out)):gb784 ≠ gb783));clear BK782;clear BK783;clear HB;have BK782:=n0_;have BK783:=n1_;have HB:=n2_;have BK784:=n3_;have GW784:=n4_;have GE784:=n5_;have NB782_784:=n6_;have NB784_782:=n7_;have NB783_784:=n8_;have NB784_783:=n9_;clear n0_ n1_ n2_ n3_ n4_ n5_ n6_ n7_ n8_ n9_;clear hb hbox hg;have hnb5:=NB782_783.out;have hnc5:=NB783_782.out;have hnb6:=NB782_784.out;have hnc6:=NB784_782.out;have hcz7_0:w4.cell? ⟨gb782,0,none⟩=some (.string a0_0):=(blk_cell BK782.out 0).trans rfl;have hcz7_1:w4.cell? ⟨gb782,1,none⟩=some (.int .i64 a0_1):=(blk_cell BK782.out 1).trans rfl;have hcz7_2:w4.cell? ⟨gb782,2,none⟩=some (.int .i64 a0_2):=(blk_cell BK782.out 2).trans rfl;have hfz7_0:=blk_frozen BK782.out 0;have hfz7_1:=blk_frozen BK782.out 1;have hfz7_2:=blk_frozen BK782.out 2;have hnb8:=NB784_783.out;have hnc8:=NB783_784.out;have hcz9_0:w4.cell? ⟨gb784,0,none⟩=some (.string (⟨#[]⟩:ByteArray)):=(blk_cell BK784.out 0).trans rfl;have hcz9_1:w4.cell? ⟨gb784,1,none⟩=some (.int .i64 0):=(blk_cell BK784.out 1).trans rfl;have hcz9_2:w4.cell? ⟨gb784,2,none⟩=some (.int .i64 0):=(blk_cell BK784.out 2).trans rfl;have hfz9_0:=blk_frozen BK784.out 0;have hfz9_1:=blk_frozen BK784.out 1;have hfz9_2:=blk_frozen BK784.out 2;have hcz10_0:w4.cell? ⟨gb783,0,none⟩=some (.string (⟨#[]⟩:ByteArray)):=(blk_cell BK783.out 0).trans rfl;have hcz10_1:w4.cell? ⟨gb783,1,none⟩=some (.int .i64 0):=(blk_cell BK783.out 1).trans rfl;have hcz10_2:w4.cell? ⟨gb783,2,none⟩=some (.int .i64 0):=(blk_cell BK783.out 2).trans rfl;have hfz10_0:=blk_frozen BK783.out 0;have hfz10_1:=blk_frozen BK783.out 1;have hfz10_2:=blk_frozen BK783.out 2))
 refine bodyPost_ret (results_cell_row rfl _ _ gb783 61 #[.string a0_0,.int .i64 a0_1,.int .i64 a0_2] (0,0) _ rfl (by refine blk_put (cs:=#[.string a0_0,.int .i64 a0_1,.int .i64 0]) ?_ 2 _ rfl;refine blk_put (cs:=#[.string a0_0,.int .i64 0,.int .i64 0]) ?_ 1 _ rfl;refine blk_put (cs:=#[.string (⟨#[]⟩:ByteArray),.int .i64 0,.int .i64 0]) ?_ 0 _ rfl;refine blk_far ?_ NB783_784.out _;refine blk_far ?_ NB783_784.out _;refine blk_far ?_ NB783_784.out _;exact BK783.out) Tryz.underlying61 rfl (by kernel_rfl)) rfl ?_
 exact ⟨by first|rfl|(simp [errW_none,errW_some]<;>rfl)|(simp [*,errW_none,errW_some]<;>rfl),by repeat (first|(with_reducible first|exact HB.out|apply below_alloc|apply pw_below_drewN|apply below_drew1|refine below_set ?_ GE782.out|refine below_set ?_ GE783.out|refine below_set ?_ GE784.out)|exact HB.out)⟩
def laws_toMetricS.l0:Nat→List (S113)→List (S61)→Int→Option ((List (S61)))
 |0,_,_,_=>none
 |k+1,x0,x3,x4=>if x4<(x0.length:Int) then (if 0≤x4 then ((laws_toMetric.f ((rd_T113 x0 x4).f0) ((rd_T113 x0 x4).f1) ((rd_T113 x0 x4).f2)).bind fun bt789=>(if x4<(x3.length:Int) then (laws_toMetricS.l0 k x0 (x3.set (x4:Int).toNat (⟨bt789.1,bt789.2.1,bt789.2.2⟩:S61)) (wrap64 (x4+1))) else (none))) else (none)) else (some x3)
def laws_toMetricS.f (k:Nat) (l0:List (S113)):Option ((List (S61))):=if 0≤(l0.length:Int) then (if ((l0.length:Int):Int).toNat≤8796093022208 then (laws_toMetricS.l0 k l0 (List.replicate ((l0.length:Int):Int).toNat z61) 0) else (none)) else (none)
set_option maxHeartbeats 8000000 in
set_option maxRecDepth 100000 in
theorem laws_toMetricS.calls (k:Nat) (A0:Option Addr) (c0:Nat) (l0:List (S113)) (r:List (S61)) (w:World) (hr0:Kd.C k113 w A0 l0.length l0) (hc0:l0.length≤c0) (h:laws_toMetricS.f k l0=some r) :
  Calls Tryz.prog 59 #[.slice A0 l0.length c0] w fun e w'=>∃ v0_:Value,e=.returned (v0_)∧Kd.R k61 61 w' w.heap.size (fun _=>True) v0_ r∧Below w.heap.size w w':=by
 have hu113:=Tryz.underlying113
 have hu61:=Tryz.underlying61
 have HR0:=Aside0.mk hr0
 have HC0:=Aside0.mk hc0
 clear hr0 hc0
 have HB:=Aside0.mk (Below.refl w.heap.size w)
 have H:(if 0≤(l0.length:Int) then (if ((l0.length:Int):Int).toNat≤8796093022208 then (laws_toMetricS.l0 k l0 (List.replicate ((l0.length:Int):Int).toNat z61) 0) else (none)) else (none))=some r:=h
 clear h
 by_cases c2:0≤(l0.length:Int)
 ·rw [if_pos c2] at H
  have c2b0:=eq_true c2
  have c2b1:decide (0≤(l0.length:Int))=true:=decide_eq_true c2
  clear c2
  by_cases c3:((l0.length:Int):Int).toNat≤8796093022208
  ·rw [if_pos c3] at H
   have c3b0:=eq_true c3
   have c3b1:decide (((l0.length:Int):Int).toNat≤8796093022208)=true:=decide_eq_true c3
   clear c3
   obtain ⟨y785,hy785⟩:∃ y_:List (S61),y_=(List.replicate ((l0.length:Int):Int).toNat z61):=⟨_,rfl⟩
   replace H:(laws_toMetricS.l0 k l0 y785 0)=some r:=by first|(rw [hy785];with_reducible exact H)|(have H2_:=(Option.bind_some _ _).symm.trans H;rw [hy785];with_reducible exact H2_)|(have H2_:=(Option.bind_some _ _).symm.trans H;with_reducible exact H2_)|with_reducible exact H|(rw [hy785];exact H)|exact H
   have Ny785:=Aside0.mk hy785
   clear hy785
   have H':=Aside0.mk H
   clear H
   go_enter Tryz.func59,Tryz.ntmps59
   go_wp2_with (first|((with_reducible refine gate_dst (N:=7) rfl ?_);refine Kd.R_make k61 _ 61 rfl (N:=7) rfl 27 _ _ rfl (l0.length:Int) rfl rfl Tryz.underlying27 (.agg #[(.string ⟨#[]⟩),(.int .i64 0),(.int .i64 0)]) 32 info61 rfl (by decide) (by omega) z61 (ok:=fun _=>True) (okp:=fun _=>True) (k61_mkM _ _ _ z61 ) (fun _ hk=>hk) trivial (of_decide_eq_true (by first|(with_reducible assumption)|assumption)) (Nat.le_trans (Nat.mul_le_mul_right _ (of_decide_eq_true (by first|(with_reducible assumption)|assumption):(l0.length:Int).toNat≤8796093022208)) (by omega)) (Below.refl _ _) (Nat.le_refl _) ?_;intro v786 w4 ho5 hb hg_ hnew_;clear hg_ hnew_;(first|rw [← Ny785.out] at ho5|(simp only [Int.reduceToNat] at ho5;rw [← Ny785.out] at ho5));have n0_:=Aside0.mk (Kd.R_lower ho5 (below_size (by repeat (first|(with_reducible first|exact HB.out|apply below_alloc|apply pw_below_drewN|apply below_drew1)|exact HB.out))));have n1_:=Aside0.mk (below_step (by repeat (first|(with_reducible first|exact HB.out|apply below_alloc|apply pw_below_drewN|apply below_drew1)|exact HB.out)) hb);clear HB;have HO787:=n0_;have HB:=n1_;clear n0_ n1_;clear hb ho5))
   go_loopg [4] k (fun kq v4 w'=>∃ (x3_1:List (S61)) (x4_1:Int),v4=.int .i64 x4_1∧Aside0 (laws_toMetricS.l0 kq l0 x3_1 x4_1=some r)∧Aside0 (kq≤k)∧Aside0 (Kd.R k61 61 w' w.heap.size (fun _=>True) v786 x3_1)∧Aside0 (Below w.heap.size w w'))
   case atStart=>exact ⟨(y785),(0),(by first|rfl|(simp;done)|(simp [*];done)),H',⟨Nat.le_refl _⟩,⟨by (with_reducible repeat (first|apply Kd.R_alloc|apply Kd.R_drewN|apply Kd.R_drew));exact HO787.out⟩,⟨by repeat (first|(with_reducible first|exact HB.out|apply below_alloc|apply pw_below_drewN|apply below_drew1)|exact HB.out)⟩⟩
   case round =>
    clear H'
    try clear c2
    try clear c2b0
    try clear c2b1
    try clear p2
    try clear c3
    try clear c3b0
    try clear c3b1
    try clear c5
    obtain ⟨x3_1,x4_1,rfl,HA,HK1,HO_3,HB⟩:=hrel
    cases gk with
    |zero=>exact absurd HA.out (by simp [laws_toMetricS.l0])
    |succ k1 =>
     have H:=HA.out
     clear HA
     simp only [laws_toMetricS.l0] at H
     by_cases c6:x4_1<(l0.length:Int)
     ·rw [if_pos c6] at H
      have c6b0:decide (x4_1<(l0.length:Int))=true:=decide_eq_true c6
      clear c6
      by_cases c7:0≤x4_1
      ·rw [if_pos c7] at H
       have c7b0:decide (0≤x4_1)=true:=decide_eq_true c7
       clear c7
       replace H:=Option.bind_eq_some_iff.mp H
       obtain ⟨⟨t789,t790,t791⟩,A80,H⟩:=H
       replace H:(if x4_1<(x3_1.length:Int) then (laws_toMetricS.l0 k1 l0 (x3_1.set (x4_1:Int).toNat (⟨t789,t790,t791⟩:S61)) (wrap64 (x4_1+1))) else (none))=some r:=H
       have A8:=Aside0.mk A80
       clear A80
       by_cases c9:x4_1<(x3_1.length:Int)
       ·rw [if_pos c9] at H
        have c9b0:decide (x4_1<(x3_1.length:Int))=true:=decide_eq_true c9
        clear c9
        obtain ⟨y792,hy792⟩:∃ y_:List (S61),y_=(x3_1.set (x4_1:Int).toNat (⟨t789,t790,t791⟩:S61)):=⟨_,rfl⟩
        replace H:(laws_toMetricS.l0 k1 l0 y792 (wrap64 (x4_1+1)))=some r:=by first|(rw [hy792];with_reducible exact H)|(have H2_:=(Option.bind_some _ _).symm.trans H;rw [hy792];with_reducible exact H2_)|(have H2_:=(Option.bind_some _ _).symm.trans H;with_reducible exact H2_)|with_reducible exact H|(rw [hy792];exact H)|exact H
        have Ny792:=Aside0.mk hy792
        clear hy792
        have H':=Aside0.mk H
        clear H
        have p788:0≤(x4_1:Int):=of_decide_eq_true (by first|(with_reducible assumption)|assumption)
        have q788:x4_1<(l0.length:Int):=of_decide_eq_true (by first|(with_reducible assumption)|assumption)
        obtain ⟨ad788,e788,hx788_0,hx788_1,hx788_2⟩:=at_T113 HR0.out x4_1 p788 q788
        cases e788
        replace hx788_0:=(HB.out.cell (World.block_lt_of_cell? w _ hx788_0)).trans hx788_0
        replace hx788_1:=(HB.out.cell (World.block_lt_of_cell? w _ hx788_1)).trans hx788_1
        replace hx788_2:=(HB.out.cell (World.block_lt_of_cell? w _ hx788_2)).trans hx788_2
        replace p788:=eq_true p788
        replace q788:=eq_true q788
        go_wp2_with (first|((with_reducible refine gate_callee (f:=118) rfl ?_);refine goesL_ (some 20) rfl rfl Tryz.func118 (by kernel_rfl) rfl #[.agg #[.string ((rd_T113 l0 x4_1).f0),.int .i64 ((rd_T113 l0 x4_1).f1),.int .i64 ((rd_T113 l0 x4_1).f2)]] rfl (by (try simp only [List.map_toArray,List.map_cons,List.map_nil]);first|done|rfl|(simp only [List.length_drop,List.length_take];rfl)) ?_;(with_reducible refine (laws_toMetric.calls ((rd_T113 l0 x4_1).f0) ((rd_T113 l0 x4_1).f1) ((rd_T113 l0 x4_1).f2) t789 t790 t791 _ A8.out).mono ?_);rintro e w11 ⟨rfl,hb⟩;refine ⟨_,rfl,?_⟩;have n0_:=Aside0.mk (Kd.R_below (by (with_reducible repeat (first|apply Kd.R_alloc|apply Kd.R_drewN|apply Kd.R_drew));exact HO_3.out) hb);have n1_:=Aside0.mk (below_step (by repeat (first|(with_reducible first|exact HB.out|apply below_alloc|apply pw_below_drewN|apply below_drew1)|exact HB.out)) hb);clear HO_3;clear HB;have HO_3:=n0_;have HB:=n1_;clear n0_ n1_;(try clear hb);(try clear hb2);(try clear hk);(try clear hi);have p10:0≤(x4_1:Int):=of_decide_eq_true (by first|(with_reducible assumption)|assumption);have q10:(x4_1:Int)<((x3_1.length:Int):Int):=of_decide_eq_true (by first|(with_reducible assumption)|assumption);obtain ⟨go10,co10,eo10,gb10,gl10,cl10,HG10⟩:=Kd.R_form HO_3.out (by omega);(first|cases eo10|(injection eo10 with ea_ en_ ec_;(first|subst ea_|(injection ea_ with ea_;subst ea_));subst ec_;clear en_));have GB10:=Aside0.mk gb10;have GG10:=Aside0.mk HG10;clear gb10 gl10 HG10;obtain ⟨ce10,hcl10,hM10,hcc10,hfr10⟩:=Kd.R_elem HO_3.out z61 (x4_1:Int) p10 q10;obtain rfl:=k61_openM hM10;have hx10_0:w11.cell? ⟨go10,(x4_1:Int).toNat*3,none⟩=some (.string ((rd_T61 x3_1 x4_1).f0)):=hcc10 0 _ rfl;have hx10_1:w11.cell? ⟨go10,(x4_1:Int).toNat*3+1,none⟩=some (.int .i64 ((rd_T61 x3_1 x4_1).f1)):=hcc10 1 _ rfl;have hx10_2:w11.cell? ⟨go10,(x4_1:Int).toNat*3+2,none⟩=some (.int .i64 ((rd_T61 x3_1 x4_1).f2)):=hcc10 2 _ rfl;have hf10_0:w11.frozen? ⟨go10,(x4_1:Int).toNat*3,none⟩=false:=hfr10 0;have hf10_1:w11.frozen? ⟨go10,(x4_1:Int).toNat*3+1,none⟩=false:=hfr10 1;have hf10_2:w11.frozen? ⟨go10,(x4_1:Int).toNat*3+2,none⟩=false:=hfr10 2;clear hcl10 hcc10 hfr10 hM10;replace p10:=eq_true p10;replace q10:=eq_true q10;have HX12:=Aside0.mk (show Kd.R k61 61 w11 w.heap.size (fun _=>True) (.slice (some ⟨go10,0,none⟩) x3_1.length co10) x3_1 from (by (with_reducible repeat (first|apply Kd.R_alloc|apply Kd.R_drewN|apply Kd.R_drew));exact HO_3.out));obtain ⟨ce12,hcl12,hM12,hcc12,hfr12⟩:=Kd.R_elem HX12.out z61 (x4_1:Int) (of_decide_eq_true (by first|(with_reducible assumption)|assumption)) (by have h_:(x4_1:Int)<((x3_1.length:Int):Int):=of_decide_eq_true (by first|(with_reducible assumption)|assumption);first|exact h_|(have e_:=(Kd.R_reads' HO_3.out).1;omega)|simpa using h_);obtain rfl:=k61_openM hM12;have HP12:=Kd.R_seg HX12.out (x4_1:Int) (of_decide_eq_true (by first|(with_reducible assumption)|assumption)) (by have h_:(x4_1:Int)<((x3_1.length:Int):Int):=of_decide_eq_true (by first|(with_reducible assumption)|assumption);first|exact h_|(have e_:=(Kd.R_reads' HO_3.out).1;omega)|simpa using h_) (seg:=[.string t789,.int .i64 t790,.int .i64 t791]) (j:=0) hcl12 hcc12 (show 3≤3 from by decide) (x':=(⟨t789,t790,t791⟩:S61)) (k61_mkM _ _ _ (⟨t789,t790,t791⟩:S61) ) (fun _ hk=>hk);have hx12_0:=hcc12 0 _ rfl;(try simp only [show (k61).sz=3 from rfl,Nat.mul_one,Nat.add_zero] at hx12_0);have hf12_0:=hfr12 0;(try simp only [show (k61).sz=3 from rfl,Nat.mul_one,Nat.add_zero] at hf12_0);have hx12_1:=hcc12 1 _ rfl;(try simp only [show (k61).sz=3 from rfl,Nat.mul_one,Nat.add_zero] at hx12_1);have hf12_1:=hfr12 1;(try simp only [show (k61).sz=3 from rfl,Nat.mul_one,Nat.add_zero] at hf12_1);have hx12_2:=hcc12 2 _ rfl;(try simp only [show (k61).sz=3 from rfl,Nat.mul_one,Nat.add_zero] at hx12_2);have hf12_2:=hfr12 2;(try simp only [show (k61).sz=3 from rfl,Nat.mul_one,Nat.add_zero] at hf12_2);clear hcl12 hcc12 hfr12 hM12)|((with_reducible refine gate_store (t:=61) (p:=21) rfl ?_);refine store_event (t:=61) (p:=21) (v:=?vo_w13) (w1:=(((w11.setCell ⟨go10,(x4_1:Int).toNat*3,none⟩ (.string t789)).setCell ⟨go10,(x4_1:Int).toNat*3+1,none⟩ (.int .i64 t790)).setCell ⟨go10,(x4_1:Int).toNat*3+2,none⟩ (.int .i64 t791))) ?hg ?ho ?hn ?hr ?_;(case ho=>rfl);(case hg=>rfl);(case hn=>rfl);(case hr=>first|(go_simp;done)|(go_simp;rfl));intro w13 hw;have hg:w11.grownBy w13 (some go10):=(by rw [hw];exact HP12.2);have hp_:Kd.R k61 61 w13 w.heap.size (fun _=>True) (.slice (some ⟨go10,0,none⟩) x3_1.length co10) y792:=(by rw [hw,Ny792.out];exact HP12.1);clear HP12;have n0_:=Aside0.mk (hp_);have n1_:=Aside0.mk ((by rw [hw];exact below_set (below_set (below_set (HB.out) GB10.out) GB10.out) GB10.out:Below w.heap.size w w13));clear HO_3;clear HB;have HO_3:=n0_;have HB:=n1_;clear n0_ n1_;clear hg hw hp_))
        go_roundg k1
        case measure=>have:=HK1.out;omega
        case rel=>exact ⟨(y792),(wrap64 (x4_1+1)),(by first|rfl|(simp;done)|(simp [*];done)),H',⟨by have:=HK1.out;omega⟩,⟨by (with_reducible repeat (first|apply Kd.R_alloc|apply Kd.R_drewN|apply Kd.R_drew));exact HO_3.out⟩,⟨by repeat (first|(with_reducible first|exact HB.out|apply below_alloc|apply pw_below_drewN|apply below_drew1)|exact HB.out)⟩⟩
       ·rw [if_neg c9] at H
        exact absurd H (by simp)
      ·rw [if_neg c7] at H
       exact absurd H (by simp)
     ·rw [if_neg c6] at H
      have c6b0:decide (x4_1<(l0.length:Int))=false:=decide_eq_false c6
      clear c6
      obtain rfl:=Option.some.inj H
      go_wp2
      go_ret
      exact ⟨_,by first|rfl|(simp [errW_none,errW_some]<;>rfl)|(simp [*,errW_none,errW_some]<;>rfl),by (with_reducible repeat (first|apply Kd.R_alloc|apply Kd.R_drewN|apply Kd.R_drew));exact HO_3.out,by repeat (first|(with_reducible first|exact HB.out|apply below_alloc|apply pw_below_drewN|apply below_drew1)|exact HB.out)⟩
  ·rw [if_neg c3] at H
   exact absurd H (by simp)
 ·rw [if_neg c2] at H
  exact absurd H (by simp)
def laws_toNote.f (a0_0:ByteArray) (a0_1:ByteArray):Option (ByteArray × ByteArray):=some (a0_0,a0_1)
set_option maxHeartbeats 8000000 in
set_option maxRecDepth 100000 in
theorem laws_toNote.calls (a0_0:ByteArray) (a0_1:ByteArray) (r1:ByteArray) (r2:ByteArray) (w:World) (h:laws_toNote.f a0_0 a0_1=some (r1,r2)) :
  Calls Tryz.prog 119 #[.agg #[.string a0_0,.string a0_1]] w fun e w'=>e=.returned (.agg #[.string r1,.string r2])∧Below w.heap.size w w':=by
 have hu116:=Tryz.underlying116
 have hu124:=Tryz.underlying124
 have HB:=Aside0.mk (Below.refl w.heap.size w)
 have H:(some (a0_0,a0_1))=some (r1,r2):=h
 clear h
 simp only [Option.some.injEq,Prod.mk.injEq] at H
 obtain ⟨rfl,rfl⟩:=H
 go_enter Tryz.func119,Tryz.ntmps119
 go_wp2_with (first|((with_reducible refine gate_dst (N:=1) rfl ?_);refine box_event ?hg (N:=1) ?hd (cs:=#[.string a0_0,.string a0_1]) (t:=116) ?hr ?_;(case hd=>rfl);(case hg=>rfl);(case hr=>first|(go_simp;done)|(go_simp;rfl));intro gb796 hg w2 hbox hb;have n0_:=Aside0.mk (below_step (by repeat (first|(with_reducible first|exact HB.out|apply below_alloc|apply pw_below_drewN|apply below_drew1)|exact HB.out)) hb);have n1_:=Aside0.mk (hbox);have n2_:=Aside0.mk ((by rw [hg];exact (below_size (by repeat (first|(with_reducible first|exact HB.out|apply below_alloc|apply pw_below_drewN|apply below_drew1)|exact HB.out))):w.heap.size≤gb796));have n3_:=Aside0.mk ((by rw [hg];exact (below_size (by repeat (first|(with_reducible first|exact HB.out|apply below_alloc|apply pw_below_drewN|apply below_drew1)|exact HB.out))):w.heap.size≤gb796));clear HB;have HB:=n0_;have BK796:=n1_;have GW796:=n2_;have GE796:=n3_;clear n0_ n1_ n2_ n3_;clear hb hbox hg)|((with_reducible refine gate_dst (N:=2) rfl ?_);refine box_event ?hg (N:=2) ?hd (cs:=#[.string (⟨#[]⟩:ByteArray),.string (⟨#[]⟩:ByteArray)]) (t:=124) ?hr ?_;(case hd=>rfl);(case hg=>rfl);(case hr=>first|(go_simp;done)|(go_simp;rfl));intro gb797 hg w3 hbox hb;have n0_:=Aside0.mk (blk_below (g:=gb796) (o:=.cells #[.string a0_0,.string a0_1] 116 (0,0)) (by exact BK796.out) hb);have n1_:=Aside0.mk (below_step (by repeat (first|(with_reducible first|exact HB.out|apply below_alloc|apply pw_below_drewN|apply below_drew1|refine below_set ?_ GE796.out)|exact HB.out)) hb);have n2_:=Aside0.mk (hbox);have n3_:=Aside0.mk ((by rw [hg];exact (below_size (by repeat (first|(with_reducible first|exact HB.out|apply below_alloc|apply pw_below_drewN|apply below_drew1|refine below_set ?_ GE796.out)|exact HB.out))):w.heap.size≤gb797));have n4_:=Aside0.mk ((by rw [hg];exact (below_size (by repeat (first|(with_reducible first|exact HB.out|apply below_alloc|apply pw_below_drewN|apply below_drew1|refine below_set ?_ GE796.out)|exact HB.out))):w.heap.size≤gb797));have n5_:=Aside0.mk ((by rw [hg];exact Nat.ne_of_lt (blk_lt (g:=gb796) (o:=.cells #[.string a0_0,.string a0_1] 116 (0,0)) (by exact BK796.out)):gb796 ≠ gb797));have n6_:=Aside0.mk ((by rw [hg];exact Nat.ne_of_gt (blk_lt (g:=gb796) (o:=.cells #[.string a0_0,.string a0_1] 116 (0,0)) (by exact BK796.out)):gb797 ≠ gb796));clear BK796;clear HB;have BK796:=n0_;have HB:=n1_;have BK797:=n2_;have GW797:=n3_;have GE797:=n4_;have NB796_797:=n5_;have NB797_796:=n6_;clear n0_ n1_ n2_ n3_ n4_ n5_ n6_;clear hb hbox hg)|((with_reducible refine gate_dst (N:=3) rfl ?_);refine box_event ?hg (N:=3) ?hd (cs:=#[.string (⟨#[]⟩:ByteArray),.string (⟨#[]⟩:ByteArray)]) (t:=124) ?hr ?_;(case hd=>rfl);(case hg=>rfl);(case hr=>first|(go_simp;done)|(go_simp;rfl));intro gb798 hg w4 hbox hb;have n0_:=Aside0.mk (blk_below (g:=gb796) (o:=.cells #[.string a0_0,.string a0_1] 116 (0,0)) (by exact BK796.out) hb);have n1_:=Aside0.mk (blk_below (g:=gb797) (o:=.cells #[.string (⟨#[]⟩:ByteArray),.string (⟨#[]⟩:ByteArray)] 124 (0,0)) (by exact BK797.out) hb);have n2_:=Aside0.mk (below_step (by repeat (first|(with_reducible first|exact HB.out|apply below_alloc|apply pw_below_drewN|apply below_drew1|refine below_set ?_ GE796.out|refine below_set ?_ GE797.out)|exact HB.out)) hb);have n3_:=Aside0.mk (hbox);have n4_:=Aside0.mk ((by rw [hg];exact (below_size (by repeat (first|(with_reducible first|exact HB.out|apply below_alloc|apply pw_below_drewN|apply below_drew1|refine below_set ?_ GE796.out|refine below_set ?_ GE797.out)|exact HB.out))):w.heap.size≤gb798));have n5_:=Aside0.mk ((by rw [hg];exact (below_size (by repeat (first|(with_reducible first|exact HB.out|apply below_alloc|apply pw_below_drewN|apply below_drew1|refine below_set ?_ GE796.out|refine below_set ?_ GE797.out)|exact HB.out))):w.heap.size≤gb798));have n6_:=Aside0.mk ((by rw [hg];exact Nat.ne_of_lt (blk_lt (g:=gb796) (o:=.cells #[.string a0_0,.string a0_1] 116 (0,0)) (by exact BK796.out)):gb796 ≠ gb798));have n7_:=Aside0.mk ((by rw [hg];exact Nat.ne_of_gt (blk_lt (g:=gb796) (o:=.cells #[.string a0_0,.string a0_1] 116 (0,0)) (by exact BK796.out)):gb798 ≠ gb796));have n8_:=Aside0.mk ((by rw [hg];exact Nat.ne_of_lt (blk_lt (g:=gb797) (o:=.cells #[.string (⟨#[]⟩:ByteArray),.string (⟨#[]⟩:ByteArray)] 124 (0,0)) (by exact BK797.out)):gb797 ≠ gb798));have n9_:=Aside0.mk ((by rw [hg];exact Nat.ne_of_gt (blk_lt (g:=gb797) (o:=.cells #[.string (⟨#[]⟩:ByteArray),.string (⟨#[]⟩:ByteArray)] 124 (0,0)) (by exact BK797.out)):gb798 ≠ gb797));clear BK796;clear BK797;clear HB;have BK796:=n0_;have BK797:=n1_;have HB:=n2_;have BK798:=n3_;have GW798:=n4_;have GE798:=n5_;have NB796_798:=n6_;have NB798_796:=n7_;have NB797_798:=n8_;have NB798_797:=n9_;clear n0_ n1_ n2_ n3_ n4_ n5_ n6_ n7_ n8_ n9_;clear hb hbox hg;have hnb5:=NB796_797.out;have hnc5:=NB797_796.out;have hnb6:=NB796_798.out;have hnc6:=NB798_796.out;have hcz7_0:w4.cell? ⟨gb796,0,none⟩=some (.string a0_0):=(blk_cell BK796.out 0).trans rfl;have hcz7_1:w4.cell? ⟨gb796,1,none⟩=some (.string a0_1):=(blk_cell BK796.out 1).trans rfl;have hfz7_0:=blk_frozen BK796.out 0;have hfz7_1:=blk_frozen BK796.out 1;have hnb8:=NB798_797.out;have hnc8:=NB797_798.out;have hcz9_0:w4.cell? ⟨gb798,0,none⟩=some (.string (⟨#[]⟩:ByteArray)):=(blk_cell BK798.out 0).trans rfl;have hcz9_1:w4.cell? ⟨gb798,1,none⟩=some (.string (⟨#[]⟩:ByteArray)):=(blk_cell BK798.out 1).trans rfl;have hfz9_0:=blk_frozen BK798.out 0;have hfz9_1:=blk_frozen BK798.out 1;have hcz10_0:w4.cell? ⟨gb797,0,none⟩=some (.string (⟨#[]⟩:ByteArray)):=(blk_cell BK797.out 0).trans rfl;have hcz10_1:w4.cell? ⟨gb797,1,none⟩=some (.string (⟨#[]⟩:ByteArray)):=(blk_cell BK797.out 1).trans rfl;have hfz10_0:=blk_frozen BK797.out 0;have hfz10_1:=blk_frozen BK797.out 1))
 refine bodyPost_ret (results_cell_row rfl _ _ gb797 124 #[.string a0_0,.string a0_1] (0,0) _ rfl (by refine blk_put (cs:=#[.string a0_0,.string (⟨#[]⟩:ByteArray)]) ?_ 1 _ rfl;refine blk_put (cs:=#[.string (⟨#[]⟩:ByteArray),.string (⟨#[]⟩:ByteArray)]) ?_ 0 _ rfl;refine blk_far ?_ NB797_798.out _;refine blk_far ?_ NB797_798.out _;exact BK797.out) Tryz.underlying124 rfl (by kernel_rfl)) rfl ?_
 exact ⟨by first|rfl|(simp [errW_none,errW_some]<;>rfl)|(simp [*,errW_none,errW_some]<;>rfl),by repeat (first|(with_reducible first|exact HB.out|apply below_alloc|apply pw_below_drewN|apply below_drew1|refine below_set ?_ GE796.out|refine below_set ?_ GE797.out|refine below_set ?_ GE798.out)|exact HB.out)⟩
def laws_toNoteS.l0:Nat→List (S116)→List (S124)→Int→Option ((List (S124)))
 |0,_,_,_=>none
 |k+1,x0,x3,x4=>if x4<(x0.length:Int) then (if 0≤x4 then ((laws_toNote.f ((rd_T116 x0 x4).f0) ((rd_T116 x0 x4).f1)).bind fun bt803=>(if x4<(x3.length:Int) then (laws_toNoteS.l0 k x0 (x3.set (x4:Int).toNat (⟨bt803.1,bt803.2⟩:S124)) (wrap64 (x4+1))) else (none))) else (none)) else (some x3)
def laws_toNoteS.f (k:Nat) (l0:List (S116)):Option ((List (S124))):=if 0≤(l0.length:Int) then (if ((l0.length:Int):Int).toNat≤8796093022208 then (laws_toNoteS.l0 k l0 (List.replicate ((l0.length:Int):Int).toNat z124) 0) else (none)) else (none)
set_option maxHeartbeats 8000000 in
set_option maxRecDepth 100000 in
theorem laws_toNoteS.calls (k:Nat) (A0:Option Addr) (c0:Nat) (l0:List (S116)) (r:List (S124)) (w:World) (hr0:Kd.C k116 w A0 l0.length l0) (hc0:l0.length≤c0) (h:laws_toNoteS.f k l0=some r) :
  Calls Tryz.prog 61 #[.slice A0 l0.length c0] w fun e w'=>∃ v0_:Value,e=.returned (v0_)∧Kd.R k124 124 w' w.heap.size (fun _=>True) v0_ r∧Below w.heap.size w w':=by
 have hu116:=Tryz.underlying116
 have hu124:=Tryz.underlying124
 have HR0:=Aside0.mk hr0
 have HC0:=Aside0.mk hc0
 clear hr0 hc0
 have HB:=Aside0.mk (Below.refl w.heap.size w)
 have H:(if 0≤(l0.length:Int) then (if ((l0.length:Int):Int).toNat≤8796093022208 then (laws_toNoteS.l0 k l0 (List.replicate ((l0.length:Int):Int).toNat z124) 0) else (none)) else (none))=some r:=h
 clear h
 by_cases c2:0≤(l0.length:Int)
 ·rw [if_pos c2] at H
  have c2b0:=eq_true c2
  have c2b1:decide (0≤(l0.length:Int))=true:=decide_eq_true c2
  clear c2
  by_cases c3:((l0.length:Int):Int).toNat≤8796093022208
  ·rw [if_pos c3] at H
   have c3b0:=eq_true c3
   have c3b1:decide (((l0.length:Int):Int).toNat≤8796093022208)=true:=decide_eq_true c3
   clear c3
   obtain ⟨y799,hy799⟩:∃ y_:List (S124),y_=(List.replicate ((l0.length:Int):Int).toNat z124):=⟨_,rfl⟩
   replace H:(laws_toNoteS.l0 k l0 y799 0)=some r:=by first|(rw [hy799];with_reducible exact H)|(have H2_:=(Option.bind_some _ _).symm.trans H;rw [hy799];with_reducible exact H2_)|(have H2_:=(Option.bind_some _ _).symm.trans H;with_reducible exact H2_)|with_reducible exact H|(rw [hy799];exact H)|exact H
   have Ny799:=Aside0.mk hy799
   clear hy799
   have H':=Aside0.mk H
   clear H
   go_enter Tryz.func61,Tryz.ntmps61
   go_wp2_with (first|((with_reducible refine gate_dst (N:=7) rfl ?_);refine Kd.R_make k124 _ 124 rfl (N:=7) rfl 48 _ _ rfl (l0.length:Int) rfl rfl Tryz.underlying48 (.agg #[(.string ⟨#[]⟩),(.string ⟨#[]⟩)]) 32 info124 rfl (by decide) (by omega) z124 (ok:=fun _=>True) (okp:=fun _=>True) (k124_mkM _ _ _ z124 ) (fun _ hk=>hk) trivial (of_decide_eq_true (by first|(with_reducible assumption)|assumption)) (Nat.le_trans (Nat.mul_le_mul_right _ (of_decide_eq_true (by first|(with_reducible assumption)|assumption):(l0.length:Int).toNat≤8796093022208)) (by omega)) (Below.refl _ _) (Nat.le_refl _) ?_;intro v800 w4 ho5 hb hg_ hnew_;clear hg_ hnew_;(first|rw [← Ny799.out] at ho5|(simp only [Int.reduceToNat] at ho5;rw [← Ny799.out] at ho5));have n0_:=Aside0.mk (Kd.R_lower ho5 (below_size (by repeat (first|(with_reducible first|exact HB.out|apply below_alloc|apply pw_below_drewN|apply below_drew1)|exact HB.out))));have n1_:=Aside0.mk (below_step (by repeat (first|(with_reducible first|exact HB.out|apply below_alloc|apply pw_below_drewN|apply below_drew1)|exact HB.out)) hb);clear HB;have HO801:=n0_;have HB:=n1_;clear n0_ n1_;clear hb ho5))
   go_loopg [4] k (fun kq v4 w'=>∃ (x3_1:List (S124)) (x4_1:Int),v4=.int .i64 x4_1∧Aside0 (laws_toNoteS.l0 kq l0 x3_1 x4_1=some r)∧Aside0 (kq≤k)∧Aside0 (Kd.R k124 124 w' w.heap.size (fun _=>True) v800 x3_1)∧Aside0 (Below w.heap.size w w'))
   case atStart=>exact ⟨(y799),(0),(by first|rfl|(simp;done)|(simp [*];done)),H',⟨Nat.le_refl _⟩,⟨by (with_reducible repeat (first|apply Kd.R_alloc|apply Kd.R_drewN|apply Kd.R_drew));exact HO801.out⟩,⟨by repeat (first|(with_reducible first|exact HB.out|apply below_alloc|apply pw_below_drewN|apply below_drew1)|exact HB.out)⟩⟩
   case round =>
    clear H'
    try clear c2
    try clear c2b0
    try clear c2b1
    try clear p2
    try clear c3
    try clear c3b0
    try clear c3b1
    obtain ⟨x3_1,x4_1,rfl,HA,HK1,HO_3,HB⟩:=hrel
    cases gk with
    |zero=>exact absurd HA.out (by simp [laws_toNoteS.l0])
    |succ k1 =>
     have H:=HA.out
     clear HA
     simp only [laws_toNoteS.l0] at H
     by_cases c6:x4_1<(l0.length:Int)
     ·rw [if_pos c6] at H
      have c6b0:decide (x4_1<(l0.length:Int))=true:=decide_eq_true c6
      clear c6
      by_cases c7:0≤x4_1
      ·rw [if_pos c7] at H
       have c7b0:decide (0≤x4_1)=true:=decide_eq_true c7
       clear c7
       replace H:=Option.bind_eq_some_iff.mp H
       obtain ⟨⟨t803,t804⟩,A80,H⟩:=H
       replace H:(if x4_1<(x3_1.length:Int) then (laws_toNoteS.l0 k1 l0 (x3_1.set (x4_1:Int).toNat (⟨t803,t804⟩:S124)) (wrap64 (x4_1+1))) else (none))=some r:=H
       have A8:=Aside0.mk A80
       clear A80
       by_cases c9:x4_1<(x3_1.length:Int)
       ·rw [if_pos c9] at H
        have c9b0:decide (x4_1<(x3_1.length:Int))=true:=decide_eq_true c9
        clear c9
        obtain ⟨y805,hy805⟩:∃ y_:List (S124),y_=(x3_1.set (x4_1:Int).toNat (⟨t803,t804⟩:S124)):=⟨_,rfl⟩
        replace H:(laws_toNoteS.l0 k1 l0 y805 (wrap64 (x4_1+1)))=some r:=by first|(rw [hy805];with_reducible exact H)|(have H2_:=(Option.bind_some _ _).symm.trans H;rw [hy805];with_reducible exact H2_)|(have H2_:=(Option.bind_some _ _).symm.trans H;with_reducible exact H2_)|with_reducible exact H|(rw [hy805];exact H)|exact H
        have Ny805:=Aside0.mk hy805
        clear hy805
        have H':=Aside0.mk H
        clear H
        have p802:0≤(x4_1:Int):=of_decide_eq_true (by first|(with_reducible assumption)|assumption)
        have q802:x4_1<(l0.length:Int):=of_decide_eq_true (by first|(with_reducible assumption)|assumption)
        obtain ⟨ad802,e802,hx802_0,hx802_1⟩:=at_T116 HR0.out x4_1 p802 q802
        cases e802
        replace hx802_0:=(HB.out.cell (World.block_lt_of_cell? w _ hx802_0)).trans hx802_0
        replace hx802_1:=(HB.out.cell (World.block_lt_of_cell? w _ hx802_1)).trans hx802_1
        replace p802:=eq_true p802
        replace q802:=eq_true q802
        go_wp2_with (first|((with_reducible refine gate_callee (f:=119) rfl ?_);refine goesL_ (some 20) rfl rfl Tryz.func119 (by kernel_rfl) rfl #[.agg #[.string ((rd_T116 l0 x4_1).f0),.string ((rd_T116 l0 x4_1).f1)]] rfl (by (try simp only [List.map_toArray,List.map_cons,List.map_nil]);first|done|rfl|(simp only [List.length_drop,List.length_take];rfl)) ?_;(with_reducible refine (laws_toNote.calls ((rd_T116 l0 x4_1).f0) ((rd_T116 l0 x4_1).f1) t803 t804 _ A8.out).mono ?_);rintro e w11 ⟨rfl,hb⟩;refine ⟨_,rfl,?_⟩;have n0_:=Aside0.mk (Kd.R_below (by (with_reducible repeat (first|apply Kd.R_alloc|apply Kd.R_drewN|apply Kd.R_drew));exact HO_3.out) hb);have n1_:=Aside0.mk (below_step (by repeat (first|(with_reducible first|exact HB.out|apply below_alloc|apply pw_below_drewN|apply below_drew1)|exact HB.out)) hb);clear HO_3;clear HB;have HO_3:=n0_;have HB:=n1_;clear n0_ n1_;(try clear hb);(try clear hb2);(try clear hk);(try clear hi);have p10:0≤(x4_1:Int):=of_decide_eq_true (by first|(with_reducible assumption)|assumption);have q10:(x4_1:Int)<((x3_1.length:Int):Int):=of_decide_eq_true (by first|(with_reducible assumption)|assumption);obtain ⟨go10,co10,eo10,gb10,gl10,cl10,HG10⟩:=Kd.R_form HO_3.out (by omega);(first|cases eo10|(injection eo10 with ea_ en_ ec_;(first|subst ea_|(injection ea_ with ea_;subst ea_));subst ec_;clear en_));have GB10:=Aside0.mk gb10;have GG10:=Aside0.mk HG10;clear gb10 gl10 HG10;obtain ⟨ce10,hcl10,hM10,hcc10,hfr10⟩:=Kd.R_elem HO_3.out z124 (x4_1:Int) p10 q10;obtain rfl:=k124_openM hM10;have hx10_0:w11.cell? ⟨go10,(x4_1:Int).toNat*2,none⟩=some (.string ((rd_T124 x3_1 x4_1).f0)):=hcc10 0 _ rfl;have hx10_1:w11.cell? ⟨go10,(x4_1:Int).toNat*2+1,none⟩=some (.string ((rd_T124 x3_1 x4_1).f1)):=hcc10 1 _ rfl;have hf10_0:w11.frozen? ⟨go10,(x4_1:Int).toNat*2,none⟩=false:=hfr10 0;have hf10_1:w11.frozen? ⟨go10,(x4_1:Int).toNat*2+1,none⟩=false:=hfr10 1;clear hcl10 hcc10 hfr10 hM10;replace p10:=eq_true p10;replace q10:=eq_true q10;have HX12:=Aside0.mk (show Kd.R k124 124 w11 w.heap.size (fun _=>True) (.slice (some ⟨go10,0,none⟩) x3_1.length co10) x3_1 from (by (with_reducible repeat (first|apply Kd.R_alloc|apply Kd.R_drewN|apply Kd.R_drew));exact HO_3.out));obtain ⟨ce12,hcl12,hM12,hcc12,hfr12⟩:=Kd.R_elem HX12.out z124 (x4_1:Int) (of_decide_eq_true (by first|(with_reducible assumption)|assumption)) (by have h_:(x4_1:Int)<((x3_1.length:Int):Int):=of_decide_eq_true (by first|(with_reducible assumption)|assumption);first|exact h_|(have e_:=(Kd.R_reads' HO_3.out).1;omega)|simpa using h_);obtain rfl:=k124_openM hM12;have HP12:=Kd.R_seg HX12.out (x4_1:Int) (of_decide_eq_true (by first|(with_reducible assumption)|assumption)) (by have h_:(x4_1:Int)<((x3_1.length:Int):Int):=of_decide_eq_true (by first|(with_reducible assumption)|assumption);first|exact h_|(have e_:=(Kd.R_reads' HO_3.out).1;omega)|simpa using h_) (seg:=[.string t803,.string t804]) (j:=0) hcl12 hcc12 (show 2≤2 from by decide) (x':=(⟨t803,t804⟩:S124)) (k124_mkM _ _ _ (⟨t803,t804⟩:S124) ) (fun _ hk=>hk);have hx12_0:=hcc12 0 _ rfl;(try simp only [show (k124).sz=2 from rfl,Nat.mul_one,Nat.add_zero] at hx12_0);have hf12_0:=hfr12 0;(try simp only [show (k124).sz=2 from rfl,Nat.mul_one,Nat.add_zero] at hf12_0);have hx12_1:=hcc12 1 _ rfl;(try simp only [show (k124).sz=2 from rfl,Nat.mul_one,Nat.add_zero] at hx12_1);have hf12_1:=hfr12 1;(try simp only [show (k124).sz=2 from rfl,Nat.mul_one,Nat.add_zero] at hf12_1);clear hcl12 hcc12 hfr12 hM12)|((with_reducible refine gate_store (t:=124) (p:=21) rfl ?_);refine store_event (t:=124) (p:=21) (v:=?vo_w13) (w1:=((w11.setCell ⟨go10,(x4_1:Int).toNat*2,none⟩ (.string t803)).setCell ⟨go10,(x4_1:Int).toNat*2+1,none⟩ (.string t804))) ?hg ?ho ?hn ?hr ?_;(case ho=>rfl);(case hg=>rfl);(case hn=>rfl);(case hr=>first|(go_simp;done)|(go_simp;rfl));intro w13 hw;have hg:w11.grownBy w13 (some go10):=(by rw [hw];exact HP12.2);have hp_:Kd.R k124 124 w13 w.heap.size (fun _=>True) (.slice (some ⟨go10,0,none⟩) x3_1.length co10) y805:=(by rw [hw,Ny805.out];exact HP12.1);clear HP12;have n0_:=Aside0.mk (hp_);have n1_:=Aside0.mk ((by rw [hw];exact below_set (below_set (HB.out) GB10.out) GB10.out:Below w.heap.size w w13));clear HO_3;clear HB;have HO_3:=n0_;have HB:=n1_;clear n0_ n1_;clear hg hw hp_))
        go_roundg k1
        case measure=>have:=HK1.out;omega
        case rel=>exact ⟨(y805),(wrap64 (x4_1+1)),(by first|rfl|(simp;done)|(simp [*];done)),H',⟨by have:=HK1.out;omega⟩,⟨by (with_reducible repeat (first|apply Kd.R_alloc|apply Kd.R_drewN|apply Kd.R_drew));exact HO_3.out⟩,⟨by repeat (first|(with_reducible first|exact HB.out|apply below_alloc|apply pw_below_drewN|apply below_drew1)|exact HB.out)⟩⟩
       ·rw [if_neg c9] at H
        exact absurd H (by simp)
      ·rw [if_neg c7] at H
       exact absurd H (by simp)
     ·rw [if_neg c6] at H
      have c6b0:decide (x4_1<(l0.length:Int))=false:=decide_eq_false c6
      clear c6
      obtain rfl:=Option.some.inj H
      go_wp2
      go_ret
      exact ⟨_,by first|rfl|(simp [errW_none,errW_some]<;>rfl)|(simp [*,errW_none,errW_some]<;>rfl),by (with_reducible repeat (first|apply Kd.R_alloc|apply Kd.R_drewN|apply Kd.R_drew));exact HO_3.out,by repeat (first|(with_reducible first|exact HB.out|apply below_alloc|apply pw_below_drewN|apply below_drew1)|exact HB.out)⟩
  ·rw [if_neg c3] at H
   exact absurd H (by simp)
 ·rw [if_neg c2] at H
  exact absurd H (by simp)
def laws_toPace.f (a0_0:Int) (a0_1:Int) (a0_2:Int) (a0_3:Int):Option (Int × Int × Int × Int):=some (a0_0,a0_1,a0_2,a0_3)
set_option maxHeartbeats 8000000 in
set_option maxRecDepth 100000 in
theorem laws_toPace.calls (a0_0:Int) (a0_1:Int) (a0_2:Int) (a0_3:Int) (r1:Int) (r2:Int) (r3:Int) (r4:Int) (w:World) (h:laws_toPace.f a0_0 a0_1 a0_2 a0_3=some (r1,r2,r3,r4)) :
  Calls Tryz.prog 60 #[.agg #[.int .i64 a0_0,.int .i64 a0_1,.int .i64 a0_2,.int .i64 a0_3]] w fun e w'=>e=.returned (.agg #[.int .i64 r1,.int .i64 r2,.int .i64 r3,.int .i64 r4])∧Below w.heap.size w w':=by
 have hu41:=Tryz.underlying41
 have hu47:=Tryz.underlying47
 have HB:=Aside0.mk (Below.refl w.heap.size w)
 have H:(some (a0_0,a0_1,a0_2,a0_3))=some (r1,r2,r3,r4):=h
 clear h
 simp only [Option.some.injEq,Prod.mk.injEq] at H
 obtain ⟨rfl,rfl,rfl,rfl⟩:=H
 go_enter Tryz.func60,Tryz.ntmps60
 go_wp2_with (first|((with_reducible refine gate_dst (N:=1) rfl ?_);refine box_event ?hg (N:=1) ?hd (cs:=#[.int .i64 a0_0,.int .i64 a0_1,.int .i64 a0_2,.int .i64 a0_3]) (t:=41) ?hr ?_;(case hd=>rfl);(case hg=>rfl);(case hr=>first|(go_simp;done)|(go_simp;rfl));intro gb793 hg w2 hbox hb;have n0_:=Aside0.mk (below_step (by repeat (first|(with_reducible first|exact HB.out|apply below_alloc|apply pw_below_drewN|apply below_drew1)|exact HB.out)) hb);have n1_:=Aside0.mk (hbox);have n2_:=Aside0.mk ((by rw [hg];exact (below_size (by repeat (first|(with_reducible first|exact HB.out|apply below_alloc|apply pw_below_drewN|apply below_drew1)|exact HB.out))):w.heap.size≤gb793));have n3_:=Aside0.mk ((by rw [hg];exact (below_size (by repeat (first|(with_reducible first|exact HB.out|apply below_alloc|apply pw_below_drewN|apply below_drew1)|exact HB.out))):w.heap.size≤gb793));clear HB;have HB:=n0_;have BK793:=n1_;have GW793:=n2_;have GE793:=n3_;clear n0_ n1_ n2_ n3_;clear hb hbox hg)|((with_reducible refine gate_dst (N:=2) rfl ?_);refine box_event ?hg (N:=2) ?hd (cs:=#[.int .i64 0,.int .i64 0,.int .i64 0,.int .i64 0]) (t:=47) ?hr ?_;(case hd=>rfl);(case hg=>rfl);(case hr=>first|(go_simp;done)|(go_simp;rfl));intro gb794 hg w3 hbox hb;have n0_:=Aside0.mk (blk_below (g:=gb793) (o:=.cells #[.int .i64 a0_0,.int .i64 a0_1,.int .i64 a0_2,.int .i64 a0_3] 41 (0,0)) (by exact BK793.out) hb);have n1_:=Aside0.mk (below_step (by repeat (first|(with_reducible first|exact HB.out|apply below_alloc|apply pw_below_drewN|apply below_drew1|refine below_set ?_ GE793.out)|exact HB.out)) hb);have n2_:=Aside0.mk (hbox);have n3_:=Aside0.mk ((by rw [hg];exact (below_size (by repeat (first|(with_reducible first|exact HB.out|apply below_alloc|apply pw_below_drewN|apply below_drew1|refine below_set ?_ GE793.out)|exact HB.out))):w.heap.size≤gb794));have n4_:=Aside0.mk ((by rw [hg];exact (below_size (by repeat (first|(with_reducible first|exact HB.out|apply below_alloc|apply pw_below_drewN|apply below_drew1|refine below_set ?_ GE793.out)|exact HB.out))):w.heap.size≤gb794));have n5_:=Aside0.mk ((by rw [hg];exact Nat.ne_of_lt (blk_lt (g:=gb793) (o:=.cells #[.int .i64 a0_0,.int .i64 a0_1,.int .i64 a0_2,.int .i64 a0_3] 41 (0,0)) (by exact BK793.out)):gb793 ≠ gb794));have n6_:=Aside0.mk ((by rw [hg];exact Nat.ne_of_gt (blk_lt (g:=gb793) (o:=.cells #[.int .i64 a0_0,.int .i64 a0_1,.int .i64 a0_2,.int .i64 a0_3] 41 (0,0)) (by exact BK793.out)):gb794 ≠ gb793));clear BK793;clear HB;have BK793:=n0_;have HB:=n1_;have BK794:=n2_;have GW794:=n3_;have GE794:=n4_;have NB793_794:=n5_;have NB794_793:=n6_;clear n0_ n1_ n2_ n3_ n4_ n5_ n6_;clear hb hbox hg)|((with_reducible refine gate_dst (N:=3) rfl ?_);refine box_event ?hg (N:=3) ?hd (cs:=#[.int .i64 0,.int .i64 0,.int .i64 0,.int .i64 0]) (t:=47) ?hr ?_;(case hd=>rfl);(case hg=>rfl);(case hr=>first|(go_simp;done)|(go_simp;rfl));intro gb795 hg w4 hbox hb;have n0_:=Aside0.mk (blk_below (g:=gb793) (o:=.cells #[.int .i64 a0_0,.int .i64 a0_1,.int .i64 a0_2,.int .i64 a0_3] 41 (0,0)) (by exact BK793.out) hb);have n1_:=Aside0.mk (blk_below (g:=gb794) (o:=.cells #[.int .i64 0,.int .i64 0,.int .i64 0,.int .i64 0] 47 (0,0)) (by exact BK794.out) hb);have n2_:=Aside0.mk (below_step (by repeat (first|(with_reducible first|exact HB.out|apply below_alloc|apply pw_below_drewN|apply below_drew1|refine below_set ?_ GE793.out|refine below_set ?_ GE794.out)|exact HB.out)) hb);have n3_:=Aside0.mk (hbox);have n4_:=Aside0.mk ((by rw [hg];exact (below_size (by repeat (first|(with_reducible first|exact HB.out|apply below_alloc|apply pw_below_drewN|apply below_drew1|refine below_set ?_ GE793.out|refine below_set ?_ GE794.out)|exact HB.out))):w.heap.size≤gb795));have n5_:=Aside0.mk ((by rw [hg];exact (below_size (by repeat (first|(with_reducible first|exact HB.out|apply below_alloc|apply pw_below_drewN|apply below_drew1|refine below_set ?_ GE793.out|refine below_set ?_ GE794.out)|exact HB.out))):w.heap.size≤gb795));have n6_:=Aside0.mk ((by rw [hg];exact Nat.ne_of_lt (blk_lt (g:=gb793) (o:=.cells #[.int .i64 a0_0,.int .i64 a0_1,.int .i64 a0_2,.int .i64 a0_3] 41 (0,0)) (by exact BK793.out)):gb793 ≠ gb795));have n7_:=Aside0.mk ((by rw [hg];exact Nat.ne_of_gt (blk_lt (g:=gb793) (o:=.cells #[.int .i64 a0_0,.int .i64 a0_1,.int .i64 a0_2,.int .i64 a0_3] 41 (0,0)) (by exact BK793.out)):gb795 ≠ gb793));have n8_:=Aside0.mk ((by rw [hg];exact Nat.ne_of_lt (blk_lt (g:=gb794) (o:=.cells #[.int .i64 0,.int .i64 0,.int .i64 0,.int .i64 0] 47 (0,0)) (by exact BK794.out)):gb794 ≠ gb795));have n9_:=Aside0.mk ((by rw [hg];exact Nat.ne_of_gt (blk_lt (g:=gb794) (o:=.cells #[.int .i64 0,.int .i64 0,.int .i64 0,.int .i64 0] 47 (0,0)) (by exact BK794.out)):gb795 ≠ gb794));clear BK793;clear BK794;clear HB;have BK793:=n0_;have BK794:=n1_;have HB:=n2_;have BK795:=n3_;have GW795:=n4_;have GE795:=n5_;have NB793_795:=n6_;have NB795_793:=n7_;have NB794_795:=n8_;have NB795_794:=n9_;clear n0_ n1_ n2_ n3_ n4_ n5_ n6_ n7_ n8_ n9_;clear hb hbox hg;have hnb5:=NB793_794.out;have hnc5:=NB794_793.out;have hnb6:=NB793_795.out;have hnc6:=NB795_793.out;have hcz7_0:w4.cell? ⟨gb793,0,none⟩=some (.int .i64 a0_0):=(blk_cell BK793.out 0).trans rfl;have hcz7_1:w4.cell? ⟨gb793,1,none⟩=some (.int .i64 a0_1):=(blk_cell BK793.out 1).trans rfl;have hcz7_2:w4.cell? ⟨gb793,2,none⟩=some (.int .i64 a0_2):=(blk_cell BK793.out 2).trans rfl;have hcz7_3:w4.cell? ⟨gb793,3,none⟩=some (.int .i64 a0_3):=(blk_cell BK793.out 3).trans rfl;have hfz7_0:=blk_frozen BK793.out 0;have hfz7_1:=blk_frozen BK793.out 1;have hfz7_2:=blk_frozen BK793.out 2;have hfz7_3:=blk_frozen BK793.out 3;have hnb8:=NB795_794.out;have hnc8:=NB794_795.out;have hcz9_0:w4.cell? ⟨gb795,0,none⟩=some (.int .i64 0):=(blk_cell BK795.out 0).trans rfl;have hcz9_1:w4.cell? ⟨gb795,1,none⟩=some (.int .i64 0):=(blk_cell BK795.out 1).trans rfl;have hcz9_2:w4.cell? ⟨gb795,2,none⟩=some (.int .i64 0):=(blk_cell BK795.out 2).trans rfl;have hcz9_3:w4.cell? ⟨gb795,3,none⟩=some (.int .i64 0):=(blk_cell BK795.out 3).trans rfl;have hfz9_0:=blk_frozen BK795.out 0;have hfz9_1:=blk_frozen BK795.out 1;have hfz9_2:=blk_frozen BK795.out 2;have hfz9_3:=blk_frozen BK795.out 3;have hcz10_0:w4.cell? ⟨gb794,0,none⟩=some (.int .i64 0):=(blk_cell BK794.out 0).trans rfl;have hcz10_1:w4.cell? ⟨gb794,1,none⟩=some (.int .i64 0):=(blk_cell BK794.out 1).trans rfl;have hcz10_2:w4.cell? ⟨gb794,2,none⟩=some (.int .i64 0):=(blk_cell BK794.out 2).trans rfl;have hcz10_3:w4.cell? ⟨gb794,3,none⟩=some (.int .i64 0):=(blk_cell BK794.out 3).trans rfl;have hfz10_0:=blk_frozen BK794.out 0;have hfz10_1:=blk_frozen BK794.out 1;have hfz10_2:=blk_frozen BK794.out 2;have hfz10_3:=blk_frozen BK794.out 3))
 refine bodyPost_ret (results_cell_row rfl _ _ gb794 47 #[.int .i64 a0_0,.int .i64 a0_1,.int .i64 a0_2,.int .i64 a0_3] (0,0) _ rfl (by refine blk_put (cs:=#[.int .i64 a0_0,.int .i64 a0_1,.int .i64 a0_2,.int .i64 0]) ?_ 3 _ rfl;refine blk_put (cs:=#[.int .i64 a0_0,.int .i64 a0_1,.int .i64 0,.int .i64 0]) ?_ 2 _ rfl;refine blk_put (cs:=#[.int .i64 a0_0,.int .i64 0,.int .i64 0,.int .i64 0]) ?_ 1 _ rfl;refine blk_put (cs:=#[.int .i64 0,.int .i64 0,.int .i64 0,.int .i64 0]) ?_ 0 _ rfl;refine blk_far ?_ NB794_795.out _;refine blk_far ?_ NB794_795.out _;refine blk_far ?_ NB794_795.out _;refine blk_far ?_ NB794_795.out _;exact BK794.out) Tryz.underlying47 rfl (by kernel_rfl)) rfl ?_
 exact ⟨by first|rfl|(simp [errW_none,errW_some]<;>rfl)|(simp [*,errW_none,errW_some]<;>rfl),by repeat (first|(with_reducible first|exact HB.out|apply below_alloc|apply pw_below_drewN|apply below_drew1|refine below_set ?_ GE793.out|refine below_set ?_ GE794.out|refine below_set ?_ GE795.out)|exact HB.out)⟩
def laws_toOrder.f (k:Nat) (a0_0:ByteArray) (a0_1:ByteArray) (a0_2:Int) (a0_3:Int) (l0_4:List (S113)) (a0_5:Int) (a0_6:Int) (a0_7:Int) (a0_8:Int) (l0_9:List (S116)):Option (ByteArray × ByteArray × Int × Int × (List (S61)) × Int × Int × Int × Int × (List (S124))):=(laws_toMetricS.f k l0_4).bind fun t809=>((laws_toPace.f a0_5 a0_6 a0_7 a0_8).bind fun bt812=>((laws_toNoteS.f k l0_9).bind fun t816=>(some (a0_0,a0_1,a0_2,a0_3,t809,bt812.1,bt812.2.1,bt812.2.2.1,bt812.2.2.2,t816))))
set_option maxHeartbeats 8000000 in
set_option maxRecDepth 100000 in
theorem laws_toOrder.calls (k:Nat) (a0_0:ByteArray) (a0_1:ByteArray) (a0_2:Int) (a0_3:Int) (A0_4:Option Addr) (c0_4:Nat) (l0_4:List (S113)) (a0_5:Int) (a0_6:Int) (a0_7:Int) (a0_8:Int) (A0_9:Option Addr) (c0_9:Nat) (l0_9:List (S116)) (r1:ByteArray) (r2:ByteArray) (r3:Int) (r4:Int) (r5:List (S61)) (r6:Int) (r7:Int) (r8:Int) (r9:Int) (r10:List (S124)) (w:World) (hr0_4:Kd.C k113 w A0_4 l0_4.length l0_4) (hc0_4:l0_4.length≤c0_4) (hr0_9:Kd.C k116 w A0_9 l0_9.length l0_9) (hc0_9:l0_9.length≤c0_9) (h:laws_toOrder.f k a0_0 a0_1 a0_2 a0_3 l0_4 a0_5 a0_6 a0_7 a0_8 l0_9=some (r1,r2,r3,r4,r5,r6,r7,r8,r9,r10)) :
  Calls Tryz.prog 19 #[.agg #[.string a0_0,.string a0_1,.int .i64 a0_2,.int .i64 a0_3,.slice A0_4 l0_4.length c0_4,.int .i64 a0_5,.int .i64 a0_6,.int .i64 a0_7,.int .i64 a0_8,.slice A0_9 l0_9.length c0_9]] w fun e w'=>∃ v4_ v9_:Value,e=.returned (.agg #[.string r1,.string r2,.int .i64 r3,.int .i64 r4,v4_,.int .i64 r6,.int .i64 r7,.int .i64 r8,.int .i64 r9,v9_])∧Kd.R k61 61 w' w.heap.size (fun _=>True) v4_ r5∧Kd.R k124 124 w' w.heap.size (fun _=>True) v9_ r10∧Below w.heap.size w w':=by
 have hu44:=Tryz.underlying44
 have hu50:=Tryz.underlying50
 have hu41:=Tryz.underlying41
 have hu47:=Tryz.underlying47
 have HR0_4:=Aside0.mk hr0_4
 have HC0_4:=Aside0.mk hc0_4
 clear hr0_4 hc0_4
 have HR0_9:=Aside0.mk hr0_9
 have HC0_9:=Aside0.mk hc0_9
 clear hr0_9 hc0_9
 have HB:=Aside0.mk (Below.refl w.heap.size w)
 have H:((laws_toMetricS.f k l0_4).bind fun t809=>((laws_toPace.f a0_5 a0_6 a0_7 a0_8).bind fun bt812=>((laws_toNoteS.f k l0_9).bind fun t816=>(some (a0_0,a0_1,a0_2,a0_3,t809,bt812.1,bt812.2.1,bt812.2.2.1,bt812.2.2.2,t816)))))=some (r1,r2,r3,r4,r5,r6,r7,r8,r9,r10):=h
 clear h
 replace H:=Option.bind_eq_some_iff.mp H
 obtain ⟨t809,A20,H⟩:=H
 replace H:((laws_toPace.f a0_5 a0_6 a0_7 a0_8).bind fun bt812=>((laws_toNoteS.f k l0_9).bind fun t816=>(some (a0_0,a0_1,a0_2,a0_3,t809,bt812.1,bt812.2.1,bt812.2.2.1,bt812.2.2.2,t816))))=some (r1,r2,r3,r4,r5,r6,r7,r8,r9,r10):=H
 have A2:=Aside0.mk A20
 clear A20
 replace H:=Option.bind_eq_some_iff.mp H
 obtain ⟨⟨t812,t813,t814,t815⟩,A30,H⟩:=H
 replace H:((laws_toNoteS.f k l0_9).bind fun t816=>(some (a0_0,a0_1,a0_2,a0_3,t809,t812,t813,t814,t815,t816)))=some (r1,r2,r3,r4,r5,r6,r7,r8,r9,r10):=H
 have A3:=Aside0.mk A30
 clear A30
 replace H:=Option.bind_eq_some_iff.mp H
 obtain ⟨t816,A40,H⟩:=H
 replace H:(some (a0_0,a0_1,a0_2,a0_3,t809,t812,t813,t814,t815,t816))=some (r1,r2,r3,r4,r5,r6,r7,r8,r9,r10):=H
 have A4:=Aside0.mk A40
 clear A40
 simp only [Option.some.injEq,Prod.mk.injEq] at H
 obtain ⟨rfl,rfl,rfl,rfl,rfl,rfl,rfl,rfl,rfl,rfl⟩:=H
 go_enter Tryz.func19,Tryz.ntmps19
 go_wp2_with (first|((with_reducible refine gate_dst (N:=1) rfl ?_);refine box_event ?hg (N:=1) ?hd (cs:=#[.string a0_0,.string a0_1,.int .i64 a0_2,.int .i64 a0_3,.slice A0_4 l0_4.length c0_4,.int .i64 a0_5,.int .i64 a0_6,.int .i64 a0_7,.int .i64 a0_8,.slice A0_9 l0_9.length c0_9]) (t:=44) ?hr ?_;(case hd=>rfl);(case hg=>rfl);(case hr=>first|(go_simp;done)|(go_simp;rfl));intro gb806 hg w5 hbox hb;have n0_:=Aside0.mk (below_step (by repeat (first|(with_reducible first|exact HB.out|apply below_alloc|apply pw_below_drewN|apply below_drew1)|exact HB.out)) hb);have n1_:=Aside0.mk (hbox);have n2_:=Aside0.mk ((by rw [hg];exact (below_size (by repeat (first|(with_reducible first|exact HB.out|apply below_alloc|apply pw_below_drewN|apply below_drew1)|exact HB.out))):w.heap.size≤gb806));have n3_:=Aside0.mk ((by rw [hg];exact (below_size (by repeat (first|(with_reducible first|exact HB.out|apply below_alloc|apply pw_below_drewN|apply below_drew1)|exact HB.out))):w.heap.size≤gb806));clear HB;have HB:=n0_;have BK806:=n1_;have GW806:=n2_;have GE806:=n3_;clear n0_ n1_ n2_ n3_;clear hb hbox hg)|((with_reducible refine gate_dst (N:=2) rfl ?_);refine box_event ?hg (N:=2) ?hd (cs:=#[.string (⟨#[]⟩:ByteArray),.string (⟨#[]⟩:ByteArray),.int .i64 0,.int .i64 0,.slice none 0 0,.int .i64 0,.int .i64 0,.int .i64 0,.int .i64 0,.slice none 0 0]) (t:=50) ?hr ?_;(case hd=>rfl);(case hg=>rfl);(case hr=>first|(go_simp;done)|(go_simp;rfl));intro gb807 hg w6 hbox hb;have n0_:=Aside0.mk (blk_below (g:=gb806) (o:=.cells #[.string a0_0,.string a0_1,.int .i64 a0_2,.int .i64 a0_3,.slice A0_4 l0_4.length c0_4,.int .i64 a0_5,.int .i64 a0_6,.int .i64 a0_7,.int .i64 a0_8,.slice A0_9 l0_9.length c0_9] 44 (0,0)) (by exact BK806.out) hb);have n1_:=Aside0.mk (below_step (by repeat (first|(with_reducible first|exact HB.out|apply below_alloc|apply pw_below_drewN|apply below_drew1|refine below_set ?_ GE806.out)|exact HB.out)) hb);have n2_:=Aside0.mk (hbox);have n3_:=Aside0.mk ((by rw [hg];exact (below_size (by repeat (first|(with_reducible first|exact HB.out|apply below_alloc|apply pw_below_drewN|apply below_drew1|refine below_set ?_ GE806.out)|exact HB.out))):w.heap.size≤gb807));have n4_:=Aside0.mk ((by rw [hg];exact (below_size (by repeat (first|(with_reducible first|exact HB.out|apply below_alloc|apply pw_below_drewN|apply below_drew1|refine below_set ?_ GE806.out)|exact HB.out))):w.heap.size≤gb807));have n5_:=Aside0.mk ((by rw [hg];exact Nat.ne_of_lt (blk_lt (g:=gb806) (o:=.cells #[.string a0_0,.string a0_1,.int .i64 a0_2,.int .i64 a0_3,.slice A0_4 l0_4.length c0_4,.int .i64 a0_5,.int .i64 a0_6,.int .i64 a0_7,.int .i64 a0_8,.slice A0_9 l0_9.length c0_9] 44 (0,0)) (by exact BK806.out)):gb806 ≠ gb807));have n6_:=Aside0.mk ((by rw [hg];exact Nat.ne_of_gt (blk_lt (g:=gb806) (o:=.cells #[.string a0_0,.string a0_1,.int .i64 a0_2,.int .i64 a0_3,.slice A0_4 l0_4.length c0_4,.int .i64 a0_5,.int .i64 a0_6,.int .i64 a0_7,.int .i64 a0_8,.slice A0_9 l0_9.length c0_9] 44 (0,0)) (by exact BK806.out)):gb807 ≠ gb806));clear BK806;clear HB;have BK806:=n0_;have HB:=n1_;have BK807:=n2_;have GW807:=n3_;have GE807:=n4_;have NB806_807:=n5_;have NB807_806:=n6_;clear n0_ n1_ n2_ n3_ n4_ n5_ n6_;clear hb hbox hg)|((with_reducible refine gate_dst (N:=3) rfl ?_);refine box_event ?hg (N:=3) ?hd (cs:=#[.string (⟨#[]⟩:ByteArray),.string (⟨#[]⟩:ByteArray),.int .i64 0,.int .i64 0,.slice none 0 0,.int .i64 0,.int .i64 0,.int .i64 0,.int .i64 0,.slice none 0 0]) (t:=50) ?hr ?_;(case hd=>rfl);(case hg=>rfl);(case hr=>first|(go_simp;done)|(go_simp;rfl));intro gb808 hg w7 hbox hb;have n0_:=Aside0.mk (blk_below (g:=gb806) (o:=.cells #[.string a0_0,.string a0_1,.int .i64 a0_2,.int .i64 a0_3,.slice A0_4 l0_4.length c0_4,.int .i64 a0_5,.int .i64 a0_6,.int .i64 a0_7,.int .i64 a0_8,.slice A0_9 l0_9.length c0_9] 44 (0,0)) (by exact BK806.out) hb);have n1_:=Aside0.mk (blk_below (g:=gb807) (o:=.cells #[.string (⟨#[]⟩:ByteArray),.string (⟨#[]⟩:ByteArray),.int .i64 0,.int .i64 0,.slice none 0 0,.int .i64 0,.int .i64 0,.int .i64 0,.int .i64 0,.slice none 0 0] 50 (0,0)) (by exact BK807.out) hb);have n2_:=Aside0.mk (below_step (by repeat (first|(with_reducible first|exact HB.out|apply below_alloc|apply pw_below_drewN|apply below_drew1|refine below_set ?_ GE806.out|refine below_set ?_ GE807.out)|exact HB.out)) hb);have n3_:=Aside0.mk (hbox);have n4_:=Aside0.mk ((by rw [hg];exact (below_size (by repeat (first|(with_reducible first|exact HB.out|apply below_alloc|apply pw_below_drewN|apply below_drew1|refine below_set ?_ GE806.out|refine below_set ?_ GE807.out)|exact HB.out))):w.heap.size≤gb808));have n5_:=Aside0.mk ((by rw [hg];exact (below_size (by repeat (first|(with_reducible first|exact HB.out|apply below_alloc|apply pw_below_drewN|apply below_drew1|refine below_set ?_ GE806.out|refine below_set ?_ GE807.out)|exact HB.out))):w.heap.size≤gb808));have n6_:=Aside0.mk ((by rw [hg];exact Nat.ne_of_lt (blk_lt (g:=gb806) (o:=.cells #[.string a0_0,.string a0_1,.int .i64 a0_2,.int .i64 a0_3,.slice A0_4 l0_4.length c0_4,.int .i64 a0_5,.int .i64 a0_6,.int .i64 a0_7,.int .i64 a0_8,.slice A0_9 l0_9.length c0_9] 44 (0,0)) (by exact BK806.out)):gb806 ≠ gb808));have n7_:=Aside0.mk ((by rw [hg];exact Nat.ne_of_gt (blk_lt (g:=gb806) (o:=.cells #[.string a0_0,.string a0_1,.int .i64 a0_2,.int .i64 a0_3,.slice A0_4 l0_4.length c0_4,.int .i64 a0_5,.int .i64 a0_6,.int .i64 a0_7,.int .i64 a0_8,.slice A0_9 l0_9.length c0_9] 44 (0,0)) (by exact BK806.out)):gb808 ≠ gb806));have n8_:=Aside0.mk ((by rw [hg];exact Nat.ne_of_lt (blk_lt (g:=gb807) (o:=.cells #[.string (⟨#[]⟩:ByteArray),.string (⟨#[]⟩:ByteArray),.int .i64 0,.int .i64 0,.slice none 0 0,.int .i64 0,.int .i64 0,.int .i64 0,.int .i64 0,.slice none 0 0] 50 (0,0)) (by exact BK807.out)):gb807 ≠ gb808));have n9_:=Aside0.mk ((by rw [hg];exact Nat.ne_of_gt (blk_lt (g:=gb807) (o:=.cells #[.string (⟨#[]⟩:ByteArray),.string (⟨#[]⟩:ByteArray),.int .i64 0,.int .i64 0,.slice none 0 0,.int .i64 0,.int .i64 0,.int .i64 0,.int .i64 0,.slice none 0 0] 50 (0,0)) (by exact BK807.out)):gb808 ≠ gb807));clear BK806;clear BK807;clear HB;have BK806:=n0_;have BK807:=n1_;have HB:=n2_;have BK808:=n3_;have GW808:=n4_;have GE808:=n5_;have NB806_808:=n6_;have NB808_806:=n7_;have NB807_808:=n8_;have NB808_807:=n9_;clear n0_ n1_ n2_ n3_ n4_ n5_ n6_ n7_ n8_ n9_;clear hb hbox hg;have hnb8:=NB806_807.out;have hnc8:=NB807_806.out;have hnb9:=NB806_808.out;have hnc9:=NB808_806.out;have hcz10_0:w7.cell? ⟨gb806,0,none⟩=some (.string a0_0):=(blk_cell BK806.out 0).trans rfl;have hcz10_1:w7.cell? ⟨gb806,1,none⟩=some (.string a0_1):=(blk_cell BK806.out 1).trans rfl;have hcz10_2:w7.cell? ⟨gb806,2,none⟩=some (.int .i64 a0_2):=(blk_cell BK806.out 2).trans rfl;have hcz10_3:w7.cell? ⟨gb806,3,none⟩=some (.int .i64 a0_3):=(blk_cell BK806.out 3).trans rfl;have hcz10_4:w7.cell? ⟨gb806,4,none⟩=some (.slice A0_4 l0_4.length c0_4):=(blk_cell BK806.out 4).trans rfl;have hcz10_5:w7.cell? ⟨gb806,5,none⟩=some (.int .i64 a0_5):=(blk_cell BK806.out 5).trans rfl;have hcz10_6:w7.cell? ⟨gb806,6,none⟩=some (.int .i64 a0_6):=(blk_cell BK806.out 6).trans rfl;have hcz10_7:w7.cell? ⟨gb806,7,none⟩=some (.int .i64 a0_7):=(blk_cell BK806.out 7).trans rfl;have hcz10_8:w7.cell? ⟨gb806,8,none⟩=some (.int .i64 a0_8):=(blk_cell BK806.out 8).trans rfl;have hcz10_9:w7.cell? ⟨gb806,9,none⟩=some (.slice A0_9 l0_9.length c0_9):=(blk_cell BK806.out 9).trans rfl;have hfz10_0:=blk_frozen BK806.out 0;have hfz10_1:=blk_frozen BK806.out 1;have hfz10_2:=blk_frozen BK806.out 2;have hfz10_3:=blk_frozen BK806.out 3;have hfz10_4:=blk_frozen BK806.out 4;have hfz10_5:=blk_frozen BK806.out 5;have hfz10_6:=blk_frozen BK806.out 6;have hfz10_7:=blk_frozen BK806.out 7;have hfz10_8:=blk_frozen BK806.out 8;have hfz10_9:=blk_frozen BK806.out 9;have hnb11:=NB808_807.out;have hnc11:=NB807_808.out;have hcz12_0:w7.cell? ⟨gb808,0,none⟩=some (.string (⟨#[]⟩:ByteArray)):=(blk_cell BK808.out 0).trans rfl;have hcz12_1:w7.cell? ⟨gb808,1,none⟩=some (.string (⟨#[]⟩:ByteArray)):=(blk_cell BK808.out 1).trans rfl;have hcz12_2:w7.cell? ⟨gb808,2,none⟩=some (.int .i64 0):=(blk_cell BK808.out 2).trans rfl;have hcz12_3:w7.cell? ⟨gb808,3,none⟩=some (.int .i64 0):=(blk_cell BK808.out 3).trans rfl;have hcz12_4:w7.cell? ⟨gb808,4,none⟩=some (.slice none 0 0):=(blk_cell BK808.out 4).trans rfl;have hcz12_5:w7.cell? ⟨gb808,5,none⟩=some (.int .i64 0):=(blk_cell BK808.out 5).trans rfl;have hcz12_6:w7.cell? ⟨gb808,6,none⟩=some (.int .i64 0):=(blk_cell BK808.out 6).trans rfl;have hcz12_7:w7.cell? ⟨gb808,7,none⟩=some (.int .i64 0):=(blk_cell BK808.out 7).trans rfl;have hcz12_8:w7.cell? ⟨gb808,8,none⟩=some (.int .i64 0):=(blk_cell BK808.out 8).trans rfl;have hcz12_9:w7.cell? ⟨gb808,9,none⟩=some (.slice none 0 0):=(blk_cell BK808.out 9).trans rfl;have hfz12_0:=blk_frozen BK808.out 0;have hfz12_1:=blk_frozen BK808.out 1;have hfz12_2:=blk_frozen BK808.out 2;have hfz12_3:=blk_frozen BK808.out 3;have hfz12_4:=blk_frozen BK808.out 4;have hfz12_5:=blk_frozen BK808.out 5;have hfz12_6:=blk_frozen BK808.out 6;have hfz12_7:=blk_frozen BK808.out 7;have hfz12_8:=blk_frozen BK808.out 8;have hfz12_9:=blk_frozen BK808.out 9)|((with_reducible refine gate_callee (f:=59) rfl ?_);refine goesL_ (some 18) rfl rfl Tryz.func59 (by kernel_rfl) rfl #[.slice A0_4 l0_4.length c0_4] rfl (by (try simp only [List.map_toArray,List.map_cons,List.map_nil]);first|done|rfl|(simp only [List.length_drop,List.length_take];rfl)) ?_;(with_reducible refine (laws_toMetricS.calls k _ _ l0_4 t809 _ ?side1 ?side2 A2.out).mono ?_);(case side1=>exact Kd.C_below HR0_4.out (by repeat (first|(with_reducible first|exact HB.out|apply below_alloc|apply pw_below_drewN|apply below_drew1|refine below_set ?_ GE806.out|refine below_set ?_ GE807.out|refine below_set ?_ GE808.out)|exact HB.out)));(case side2=>exact HC0_4.out);rintro e w13 ⟨v810,rfl,ho0,hb⟩;refine ⟨_,rfl,?_⟩;have n0_:=Aside0.mk (Kd.R_lower ho0 (below_size (by repeat (first|(with_reducible first|exact HB.out|apply below_alloc|apply pw_below_drewN|apply below_drew1|refine below_set ?_ GE806.out|refine below_set ?_ GE807.out|refine below_set ?_ GE808.out)|exact HB.out))));have n1_:=Aside0.mk (blk_below (g:=gb806) (o:=.cells #[.string a0_0,.string a0_1,.int .i64 a0_2,.int .i64 a0_3,.slice A0_4 l0_4.length c0_4,.int .i64 a0_5,.int .i64 a0_6,.int .i64 a0_7,.int .i64 a0_8,.slice A0_9 l0_9.length c0_9] 44 (0,0)) (by refine blk_far ?_ NB806_808.out _;refine blk_far ?_ NB806_808.out _;refine blk_far ?_ NB806_808.out _;refine blk_far ?_ NB806_808.out _;exact BK806.out) hb);have n2_:=Aside0.mk (blk_below (g:=gb807) (o:=.cells #[.string (⟨#[]⟩:ByteArray),.string (⟨#[]⟩:ByteArray),.int .i64 0,.int .i64 0,.slice none 0 0,.int .i64 0,.int .i64 0,.int .i64 0,.int .i64 0,.slice none 0 0] 50 (0,0)) (by refine blk_far ?_ NB807_808.out _;refine blk_far ?_ NB807_808.out _;refine blk_far ?_ NB807_808.out _;refine blk_far ?_ NB807_808.out _;exact BK807.out) hb);have n3_:=Aside0.mk (blk_below (g:=gb808) (o:=.cells #[.string a0_0,.string a0_1,.int .i64 a0_2,.int .i64 a0_3,.slice none 0 0,.int .i64 0,.int .i64 0,.int .i64 0,.int .i64 0,.slice none 0 0] 50 (0,0)) (by refine blk_put (cs:=#[.string a0_0,.string a0_1,.int .i64 a0_2,.int .i64 0,.slice none 0 0,.int .i64 0,.int .i64 0,.int .i64 0,.int .i64 0,.slice none 0 0]) ?_ 3 _ rfl;refine blk_put (cs:=#[.string a0_0,.string a0_1,.int .i64 0,.int .i64 0,.slice none 0 0,.int .i64 0,.int .i64 0,.int .i64 0,.int .i64 0,.slice none 0 0]) ?_ 2 _ rfl;refine blk_put (cs:=#[.string a0_0,.string (⟨#[]⟩:ByteArray),.int .i64 0,.int .i64 0,.slice none 0 0,.int .i64 0,.int .i64 0,.int .i64 0,.int .i64 0,.slice none 0 0]) ?_ 1 _ rfl;refine blk_put (cs:=#[.string (⟨#[]⟩:ByteArray),.string (⟨#[]⟩:ByteArray),.int .i64 0,.int .i64 0,.slice none 0 0,.int .i64 0,.int .i64 0,.int .i64 0,.int .i64 0,.slice none 0 0]) ?_ 0 _ rfl;exact BK808.out) hb);have n4_:=Aside0.mk (below_step (by repeat (first|(with_reducible first|exact HB.out|apply below_alloc|apply pw_below_drewN|apply below_drew1|refine below_set ?_ GE806.out|refine below_set ?_ GE807.out|refine below_set ?_ GE808.out)|exact HB.out)) hb);clear BK806;clear BK807;clear BK808;clear HB;have HO811:=n0_;have BK806:=n1_;have BK807:=n2_;have BK808:=n3_;have HB:=n4_;clear n0_ n1_ n2_ n3_ n4_;(try clear hb);(try clear hb2);(try clear hk);(try clear hi);(try clear ho0);obtain ⟨Ao14,co14,eo14⟩:=Kd.R_slice HO811.out;subst eo14;have hcz15_0:w13.cell? ⟨gb808,0,none⟩=some (.string a0_0):=(blk_cell BK808.out 0).trans rfl;have hcz15_1:w13.cell? ⟨gb808,1,none⟩=some (.string a0_1):=(blk_cell BK808.out 1).trans rfl;have hcz15_2:w13.cell? ⟨gb808,2,none⟩=some (.int .i64 a0_2):=(blk_cell BK808.out 2).trans rfl;have hcz15_3:w13.cell? ⟨gb808,3,none⟩=some (.int .i64 a0_3):=(blk_cell BK808.out 3).trans rfl;have hcz15_4:w13.cell? ⟨gb808,4,none⟩=some (.slice none 0 0):=(blk_cell BK808.out 4).trans rfl;have hcz15_5:w13.cell? ⟨gb808,5,none⟩=some (.int .i64 0):=(blk_cell BK808.out 5).trans rfl;have hcz15_6:w13.cell? ⟨gb808,6,none⟩=some (.int .i64 0):=(blk_cell BK808.out 6).trans rfl;have hcz15_7:w13.cell? ⟨gb808,7,none⟩=some (.int .i64 0):=(blk_cell BK808.out 7).trans rfl;have hcz15_8:w13.cell? ⟨gb808,8,none⟩=some (.int .i64 0):=(blk_cell BK808.out 8).trans rfl;have hcz15_9:w13.cell? ⟨gb808,9,none⟩=some (.slice none 0 0):=(blk_cell BK808.out 9).trans rfl;have hfz15_0:=blk_frozen BK808.out 0;have hfz15_1:=blk_frozen BK808.out 1;have hfz15_2:=blk_frozen BK808.out 2;have hfz15_3:=blk_frozen BK808.out 3;have hfz15_4:=blk_frozen BK808.out 4;have hfz15_5:=blk_frozen BK808.out 5;have hfz15_6:=blk_frozen BK808.out 6;have hfz15_7:=blk_frozen BK808.out 7;have hfz15_8:=blk_frozen BK808.out 8;have hfz15_9:=blk_frozen BK808.out 9;have hcz16_0:w13.cell? ⟨gb806,0,none⟩=some (.string a0_0):=(blk_cell BK806.out 0).trans rfl;have hcz16_1:w13.cell? ⟨gb806,1,none⟩=some (.string a0_1):=(blk_cell BK806.out 1).trans rfl;have hcz16_2:w13.cell? ⟨gb806,2,none⟩=some (.int .i64 a0_2):=(blk_cell BK806.out 2).trans rfl;have hcz16_3:w13.cell? ⟨gb806,3,none⟩=some (.int .i64 a0_3):=(blk_cell BK806.out 3).trans rfl;have hcz16_4:w13.cell? ⟨gb806,4,none⟩=some (.slice A0_4 l0_4.length c0_4):=(blk_cell BK806.out 4).trans rfl;have hcz16_5:w13.cell? ⟨gb806,5,none⟩=some (.int .i64 a0_5):=(blk_cell BK806.out 5).trans rfl;have hcz16_6:w13.cell? ⟨gb806,6,none⟩=some (.int .i64 a0_6):=(blk_cell BK806.out 6).trans rfl;have hcz16_7:w13.cell? ⟨gb806,7,none⟩=some (.int .i64 a0_7):=(blk_cell BK806.out 7).trans rfl;have hcz16_8:w13.cell? ⟨gb806,8,none⟩=some (.int .i64 a0_8):=(blk_cell BK806.out 8).trans rfl;have hcz16_9:w13.cell? ⟨gb806,9,none⟩=some (.slice A0_9 l0_9.length c0_9):=(blk_cell BK806.out 9).trans rfl;have hfz16_0:=blk_frozen BK806.out 0;have hfz16_1:=blk_frozen BK806.out 1;have hfz16_2:=blk_frozen BK806.out 2;have hfz16_3:=blk_frozen BK806.out 3;have hfz16_4:=blk_frozen BK806.out 4;have hfz16_5:=blk_frozen BK806.out 5;have hfz16_6:=blk_frozen BK806.out 6;have hfz16_7:=blk_frozen BK806.out 7;have hfz16_8:=blk_frozen BK806.out 8;have hfz16_9:=blk_frozen BK806.out 9)|((with_reducible refine gate_callee (f:=60) rfl ?_);refine goesL_ (some 22) rfl rfl Tryz.func60 (by kernel_rfl) rfl #[.agg #[.int .i64 a0_5,.int .i64 a0_6,.int .i64 a0_7,.int .i64 a0_8]] rfl (by (try simp only [List.map_toArray,List.map_cons,List.map_nil]);first|done|rfl|(simp only [List.length_drop,List.length_take];rfl)) ?_;(with_reducible refine (laws_toPace.calls a0_5 a0_6 a0_7 a0_8 t812 t813 t814 t815 _ A3.out).mono ?_);rintro e w17 ⟨rfl,hb⟩;refine ⟨_,rfl,?_⟩;have n0_:=Aside0.mk (Kd.R_below (by (with_reducible repeat (first|apply Kd.R_alloc|apply Kd.R_drewN|apply Kd.R_drew));exact (Kd.R_mono (Kd.R_far (p:=⟨gb808,4,none⟩) (Kd.R_types HO811.out BK808.out (by decide)) (fun _ hk=>hk.2) (.slice Ao14 t809.length co14)) (fun _ h_=>h_.1))) hb);have n1_:=Aside0.mk (blk_below (g:=gb806) (o:=.cells #[.string a0_0,.string a0_1,.int .i64 a0_2,.int .i64 a0_3,.slice A0_4 l0_4.length c0_4,.int .i64 a0_5,.int .i64 a0_6,.int .i64 a0_7,.int .i64 a0_8,.slice A0_9 l0_9.length c0_9] 44 (0,0)) (by refine blk_far ?_ NB806_808.out _;exact BK806.out) hb);have n2_:=Aside0.mk (blk_below (g:=gb807) (o:=.cells #[.string (⟨#[]⟩:ByteArray),.string (⟨#[]⟩:ByteArray),.int .i64 0,.int .i64 0,.slice none 0 0,.int .i64 0,.int .i64 0,.int .i64 0,.int .i64 0,.slice none 0 0] 50 (0,0)) (by refine blk_far ?_ NB807_808.out _;exact BK807.out) hb);have n3_:=Aside0.mk (blk_below (g:=gb808) (o:=.cells #[.string a0_0,.string a0_1,.int .i64 a0_2,.int .i64 a0_3,.slice Ao14 t809.length co14,.int .i64 0,.int .i64 0,.int .i64 0,.int .i64 0,.slice none 0 0] 50 (0,0)) (by refine blk_put (cs:=#[.string a0_0,.string a0_1,.int .i64 a0_2,.int .i64 a0_3,.slice none 0 0,.int .i64 0,.int .i64 0,.int .i64 0,.int .i64 0,.slice none 0 0]) ?_ 4 _ rfl;exact BK808.out) hb);have n4_:=Aside0.mk (below_step (by repeat (first|(with_reducible first|exact HB.out|apply below_alloc|apply pw_below_drewN|apply below_drew1|refine below_set ?_ GE806.out|refine below_set ?_ GE807.out|refine below_set ?_ GE808.out)|exact HB.out)) hb);clear HO811;clear BK806;clear BK807;clear BK808;clear HB;have HO811:=n0_;have BK806:=n1_;have BK807:=n2_;have BK808:=n3_;have HB:=n4_;clear n0_ n1_ n2_ n3_ n4_;(try clear hb);(try clear hb2);(try clear hk);(try clear hi);have hcz18_0:w17.cell? ⟨gb808,0,none⟩=some (.string a0_0):=(blk_cell BK808.out 0).trans rfl;have hcz18_1:w17.cell? ⟨gb808,1,none⟩=some (.string a0_1):=(blk_cell BK808.out 1).trans rfl;have hcz18_2:w17.cell? ⟨gb808,2,none⟩=some (.int .i64 a0_2):=(blk_cell BK808.out 2).trans rfl;have hcz18_3:w17.cell? ⟨gb808,3,none⟩=some (.int .i64 a0_3):=(blk_cell BK808.out 3).trans rfl;have hcz18_4:w17.cell? ⟨gb808,4,none⟩=some (.slice Ao14 t809.length co14):=(blk_cell BK808.out 4).trans rfl;have hcz18_5:w17.cell? ⟨gb808,5,none⟩=some (.int .i64 0):=(blk_cell BK808.out 5).trans rfl;have hcz18_6:w17.cell? ⟨gb808,6,none⟩=some (.int .i64 0):=(blk_cell BK808.out 6).trans rfl;have hcz18_7:w17.cell? ⟨gb808,7,none⟩=some (.int .i64 0):=(blk_cell BK808.out 7).trans rfl;have hcz18_8:w17.cell? ⟨gb808,8,none⟩=some (.int .i64 0):=(blk_cell BK808.out 8).trans rfl;have hcz18_9:w17.cell? ⟨gb808,9,none⟩=some (.slice none 0 0):=(blk_cell BK808.out 9).trans rfl;have hfz18_0:=blk_frozen BK808.out 0;have hfz18_1:=blk_frozen BK808.out 1;have hfz18_2:=blk_frozen BK808.out 2;have hfz18_3:=blk_frozen BK808.out 3;have hfz18_4:=blk_frozen BK808.out 4;have hfz18_5:=blk_frozen BK808.out 5;have hfz18_6:=blk_frozen BK808.out 6;have hfz18_7:=blk_frozen BK808.out 7;have hfz18_8:=blk_frozen BK808.out 8;have hfz18_9:=blk_frozen BK808.out 9;have hcz19_0:w17.cell? ⟨gb806,0,none⟩=some (.string a0_0):=(blk_cell BK806.out 0).trans rfl;have hcz19_1:w17.cell? ⟨gb806,1,none⟩=some (.string a0_1):=(blk_cell BK806.out 1).trans rfl;have hcz19_2:w17.cell? ⟨gb806,2,none⟩=some (.int .i64 a0_2):=(blk_cell BK806.out 2).trans rfl;have hcz19_3:w17.cell? ⟨gb806,3,none⟩=some (.int .i64 a0_3):=(blk_cell BK806.out 3).trans rfl;have hcz19_4:w17.cell? ⟨gb806,4,none⟩=some (.slice A0_4 l0_4.length c0_4):=(blk_cell BK806.out 4).trans rfl;have hcz19_5:w17.cell? ⟨gb806,5,none⟩=some (.int .i64 a0_5):=(blk_cell BK806.out 5).trans rfl;have hcz19_6:w17.cell? ⟨gb806,6,none⟩=some (.int .i64 a0_6):=(blk_cell BK806.out 6).trans rfl;have hcz19_7:w17.cell? ⟨gb806,7,none⟩=some (.int .i64 a0_7):=(blk_cell BK806.out 7).trans rfl;have hcz19_8:w17.cell? ⟨gb806,8,none⟩=some (.int .i64 a0_8):=(blk_cell BK806.out 8).trans rfl;have hcz19_9:w17.cell? ⟨gb806,9,none⟩=some (.slice A0_9 l0_9.length c0_9):=(blk_cell BK806.out 9).trans rfl;have hfz19_0:=blk_frozen BK806.out 0;have hfz19_1:=blk_frozen BK806.out 1;have hfz19_2:=blk_frozen BK806.out 2;have hfz19_3:=blk_frozen BK806.out 3;have hfz19_4:=blk_frozen BK806.out 4;have hfz19_5:=blk_frozen BK806.out 5;have hfz19_6:=blk_frozen BK806.out 6;have hfz19_7:=blk_frozen BK806.out 7;have hfz19_8:=blk_frozen BK806.out 8;have hfz19_9:=blk_frozen BK806.out 9)|((with_reducible refine gate_callee (f:=61) rfl ?_);refine goesL_ (some 26) rfl rfl Tryz.func61 (by kernel_rfl) rfl #[.slice A0_9 l0_9.length c0_9] rfl (by (try simp only [List.map_toArray,List.map_cons,List.map_nil]);first|done|rfl|(simp only [List.length_drop,List.length_take];rfl)) ?_;(with_reducible refine (laws_toNoteS.calls k _ _ l0_9 t816 _ ?side1 ?side2 A4.out).mono ?_);(case side1=>exact Kd.C_below HR0_9.out (by repeat (first|(with_reducible first|exact HB.out|apply below_alloc|apply pw_below_drewN|apply below_drew1|refine below_set ?_ GE806.out|refine below_set ?_ GE807.out|refine below_set ?_ GE808.out)|exact HB.out)));(case side2=>exact HC0_9.out);rintro e w20 ⟨v817,rfl,ho0,hb⟩;refine ⟨_,rfl,?_⟩;have n0_:=Aside0.mk (Kd.R_below (by (with_reducible repeat (first|apply Kd.R_alloc|apply Kd.R_drewN|apply Kd.R_drew));exact (Kd.R_mono (Kd.R_far (p:=⟨gb808,8,none⟩) (Kd.R_far (p:=⟨gb808,7,none⟩) (Kd.R_far (p:=⟨gb808,6,none⟩) (Kd.R_far (p:=⟨gb808,5,none⟩) (Kd.R_types HO811.out BK808.out (by decide)) (fun _ hk=>hk.2) (.int .i64 t812)) (fun _ hk=>hk.2) (.int .i64 t813)) (fun _ hk=>hk.2) (.int .i64 t814)) (fun _ hk=>hk.2) (.int .i64 t815)) (fun _ h_=>h_.1))) hb);have n1_:=Aside0.mk (Kd.R_lower ho0 (below_size (by repeat (first|(with_reducible first|exact HB.out|apply below_alloc|apply pw_below_drewN|apply below_drew1|refine below_set ?_ GE806.out|refine below_set ?_ GE807.out|refine below_set ?_ GE808.out)|exact HB.out))));have n2_:=Aside0.mk (blk_below (g:=gb806) (o:=.cells #[.string a0_0,.string a0_1,.int .i64 a0_2,.int .i64 a0_3,.slice A0_4 l0_4.length c0_4,.int .i64 a0_5,.int .i64 a0_6,.int .i64 a0_7,.int .i64 a0_8,.slice A0_9 l0_9.length c0_9] 44 (0,0)) (by refine blk_far ?_ NB806_808.out _;refine blk_far ?_ NB806_808.out _;refine blk_far ?_ NB806_808.out _;refine blk_far ?_ NB806_808.out _;exact BK806.out) hb);have n3_:=Aside0.mk (blk_below (g:=gb807) (o:=.cells #[.string (⟨#[]⟩:ByteArray),.string (⟨#[]⟩:ByteArray),.int .i64 0,.int .i64 0,.slice none 0 0,.int .i64 0,.int .i64 0,.int .i64 0,.int .i64 0,.slice none 0 0] 50 (0,0)) (by refine blk_far ?_ NB807_808.out _;refine blk_far ?_ NB807_808.out _;refine blk_far ?_ NB807_808.out _;refine blk_far ?_ NB807_808.out _;exact BK807.out) hb);have n4_:=Aside0.mk (blk_below (g:=gb808) (o:=.cells #[.string a0_0,.string a0_1,.int .i64 a0_2,.int .i64 a0_3,.slice Ao14 t809.length co14,.int .i64 t812,.int .i64 t813,.int .i64 t814,.int .i64 t815,.slice none 0 0] 50 (0,0)) (by refine blk_put (cs:=#[.string a0_0,.string a0_1,.int .i64 a0_2,.int .i64 a0_3,.slice Ao14 t809.length co14,.int .i64 t812,.int .i64 t813,.int .i64 t814,.int .i64 0,.slice none 0 0]) ?_ 8 _ rfl;refine blk_put (cs:=#[.string a0_0,.string a0_1,.int .i64 a0_2,.int .i64 a0_3,.slice Ao14 t809.length co14,.int .i64 t812,.int .i64 t813,.int .i64 0,.int .i64 0,.slice none 0 0]) ?_ 7 _ rfl;refine blk_put (cs:=#[.string a0_0,.string a0_1,.int .i64 a0_2,.int .i64 a0_3,.slice Ao14 t809.length co14,.int .i64 t812,.int .i64 0,.int .i64 0,.int .i64 0,.slice none 0 0]) ?_ 6 _ rfl;refine blk_put (cs:=#[.string a0_0,.string a0_1,.int .i64 a0_2,.int .i64 a0_3,.slice Ao14 t809.length co14,.int .i64 0,.int .i64 0,.int .i64 0,.int .i64 0,.slice none 0 0]) ?_ 5 _ rfl;exact BK808.out) hb);have n5_:=Aside0.mk (below_step (by repeat (first|(with_reducible first|exact HB.out|apply below_alloc|apply pw_below_drewN|apply below_drew1|refine below_set ?_ GE806.out|refine below_set ?_ GE807.out|refine below_set ?_ GE808.out)|exact HB.out)) hb);clear HO811;clear BK806;clear BK807;clear BK808;clear HB;have HO811:=n0_;have HO818:=n1_;have BK806:=n2_;have BK807:=n3_;have BK808:=n4_;have HB:=n5_;clear n0_ n1_ n2_ n3_ n4_ n5_;(try clear hb);(try clear hb2);(try clear hk);(try clear hi);(try clear ho0);obtain ⟨Ao21,co21,eo21⟩:=Kd.R_slice HO818.out;subst eo21;have hcz22_0:w20.cell? ⟨gb808,0,none⟩=some (.string a0_0):=(blk_cell BK808.out 0).trans rfl;have hcz22_1:w20.cell? ⟨gb808,1,none⟩=some (.string a0_1):=(blk_cell BK808.out 1).trans rfl;have hcz22_2:w20.cell? ⟨gb808,2,none⟩=some (.int .i64 a0_2):=(blk_cell BK808.out 2).trans rfl;have hcz22_3:w20.cell? ⟨gb808,3,none⟩=some (.int .i64 a0_3):=(blk_cell BK808.out 3).trans rfl;have hcz22_4:w20.cell? ⟨gb808,4,none⟩=some (.slice Ao14 t809.length co14):=(blk_cell BK808.out 4).trans rfl;have hcz22_5:w20.cell? ⟨gb808,5,none⟩=some (.int .i64 t812):=(blk_cell BK808.out 5).trans rfl;have hcz22_6:w20.cell? ⟨gb808,6,none⟩=some (.int .i64 t813):=(blk_cell BK808.out 6).trans rfl;have hcz22_7:w20.cell? ⟨gb808,7,none⟩=some (.int .i64 t814):=(blk_cell BK808.out 7).trans rfl;have hcz22_8:w20.cell? ⟨gb808,8,none⟩=some (.int .i64 t815):=(blk_cell BK808.out 8).trans rfl;have hcz22_9:w20.cell? ⟨gb808,9,none⟩=some (.slice none 0 0):=(blk_cell BK808.out 9).trans rfl;have hfz22_0:=blk_frozen BK808.out 0;have hfz22_1:=blk_frozen BK808.out 1;have hfz22_2:=blk_frozen BK808.out 2;have hfz22_3:=blk_frozen BK808.out 3;have hfz22_4:=blk_frozen BK808.out 4;have hfz22_5:=blk_frozen BK808.out 5;have hfz22_6:=blk_frozen BK808.out 6;have hfz22_7:=blk_frozen BK808.out 7;have hfz22_8:=blk_frozen BK808.out 8;have hfz22_9:=blk_frozen BK808.out 9;have hcz23_0:w20.cell? ⟨gb807,0,none⟩=some (.string (⟨#[]⟩:ByteArray)):=(blk_cell BK807.out 0).trans rfl;have hcz23_1:w20.cell? ⟨gb807,1,none⟩=some (.string (⟨#[]⟩:ByteArray)):=(blk_cell BK807.out 1).trans rfl;have hcz23_2:w20.cell? ⟨gb807,2,none⟩=some (.int .i64 0):=(blk_cell BK807.out 2).trans rfl;have hcz23_3:w20.cell? ⟨gb807,3,none⟩=some (.int .i64 0):=(blk_cell BK807.out 3).trans rfl;have hcz23_4:w20.cell? ⟨gb807,4,none⟩=some (.slice none 0 0):=(blk_cell BK807.out 4).trans rfl;have hcz23_5:w20.cell? ⟨gb807,5,none⟩=some (.int .i64 0):=(blk_cell BK807.out 5).trans rfl;have hcz23_6:w20.cell? ⟨gb807,6,none⟩=some (.int .i64 0):=(blk_cell BK807.out 6).trans rfl;have hcz23_7:w20.cell? ⟨gb807,7,none⟩=some (.int .i64 0):=(blk_cell BK807.out 7).trans rfl;have hcz23_8:w20.cell? ⟨gb807,8,none⟩=some (.int .i64 0):=(blk_cell BK807.out 8).trans rfl;have hcz23_9:w20.cell? ⟨gb807,9,none⟩=some (.slice none 0 0):=(blk_cell BK807.out 9).trans rfl;have hfz23_0:=blk_frozen BK807.out 0;have hfz23_1:=blk_frozen BK807.out 1;have hfz23_2:=blk_frozen BK807.out 2;have hfz23_3:=blk_frozen BK807.out 3;have hfz23_4:=blk_frozen BK807.out 4;have hfz23_5:=blk_frozen BK807.out 5;have hfz23_6:=blk_frozen BK807.out 6;have hfz23_7:=blk_frozen BK807.out 7;have hfz23_8:=blk_frozen BK807.out 8;have hfz23_9:=blk_frozen BK807.out 9))
 refine bodyPost_ret (results_cell_row rfl _ _ gb807 50 #[.string a0_0,.string a0_1,.int .i64 a0_2,.int .i64 a0_3,.slice Ao14 t809.length co14,.int .i64 t812,.int .i64 t813,.int .i64 t814,.int .i64 t815,.slice Ao21 t816.length co21] (0,0) _ rfl (by refine blk_put (cs:=#[.string a0_0,.string a0_1,.int .i64 a0_2,.int .i64 a0_3,.slice Ao14 t809.length co14,.int .i64 t812,.int .i64 t813,.int .i64 t814,.int .i64 t815,.slice none 0 0]) ?_ 9 _ rfl;refine blk_put (cs:=#[.string a0_0,.string a0_1,.int .i64 a0_2,.int .i64 a0_3,.slice Ao14 t809.length co14,.int .i64 t812,.int .i64 t813,.int .i64 t814,.int .i64 0,.slice none 0 0]) ?_ 8 _ rfl;refine blk_put (cs:=#[.string a0_0,.string a0_1,.int .i64 a0_2,.int .i64 a0_3,.slice Ao14 t809.length co14,.int .i64 t812,.int .i64 t813,.int .i64 0,.int .i64 0,.slice none 0 0]) ?_ 7 _ rfl;refine blk_put (cs:=#[.string a0_0,.string a0_1,.int .i64 a0_2,.int .i64 a0_3,.slice Ao14 t809.length co14,.int .i64 t812,.int .i64 0,.int .i64 0,.int .i64 0,.slice none 0 0]) ?_ 6 _ rfl;refine blk_put (cs:=#[.string a0_0,.string a0_1,.int .i64 a0_2,.int .i64 a0_3,.slice Ao14 t809.length co14,.int .i64 0,.int .i64 0,.int .i64 0,.int .i64 0,.slice none 0 0]) ?_ 5 _ rfl;refine blk_put (cs:=#[.string a0_0,.string a0_1,.int .i64 a0_2,.int .i64 a0_3,.slice none 0 0,.int .i64 0,.int .i64 0,.int .i64 0,.int .i64 0,.slice none 0 0]) ?_ 4 _ rfl;refine blk_put (cs:=#[.string a0_0,.string a0_1,.int .i64 a0_2,.int .i64 0,.slice none 0 0,.int .i64 0,.int .i64 0,.int .i64 0,.int .i64 0,.slice none 0 0]) ?_ 3 _ rfl;refine blk_put (cs:=#[.string a0_0,.string a0_1,.int .i64 0,.int .i64 0,.slice none 0 0,.int .i64 0,.int .i64 0,.int .i64 0,.int .i64 0,.slice none 0 0]) ?_ 2 _ rfl;refine blk_put (cs:=#[.string a0_0,.string (⟨#[]⟩:ByteArray),.int .i64 0,.int .i64 0,.slice none 0 0,.int .i64 0,.int .i64 0,.int .i64 0,.int .i64 0,.slice none 0 0]) ?_ 1 _ rfl;refine blk_put (cs:=#[.string (⟨#[]⟩:ByteArray),.string (⟨#[]⟩:ByteArray),.int .i64 0,.int .i64 0,.slice none 0 0,.int .i64 0,.int .i64 0,.int .i64 0,.int .i64 0,.slice none 0 0]) ?_ 0 _ rfl;refine blk_far ?_ NB807_808.out _;exact BK807.out) Tryz.underlying50 rfl (by kernel_rfl)) rfl ?_
 exact ⟨_,_,by first|rfl|(simp [errW_none,errW_some]<;>rfl)|(simp [*,errW_none,errW_some]<;>rfl),by (with_reducible repeat (first|apply Kd.R_alloc|apply Kd.R_drewN|apply Kd.R_drew));exact Kd.R_mono (Kd.R_far (p:=⟨gb807,9,none⟩) (Kd.R_far (p:=⟨gb807,8,none⟩) (Kd.R_far (p:=⟨gb807,7,none⟩) (Kd.R_far (p:=⟨gb807,6,none⟩) (Kd.R_far (p:=⟨gb807,5,none⟩) (Kd.R_far (p:=⟨gb807,4,none⟩) (Kd.R_far (p:=⟨gb807,3,none⟩) (Kd.R_far (p:=⟨gb807,2,none⟩) (Kd.R_far (p:=⟨gb807,1,none⟩) (Kd.R_far (p:=⟨gb807,0,none⟩) (Kd.R_far (p:=⟨gb808,9,none⟩) (Kd.R_types (Kd.R_types HO811.out BK808.out (by decide)) BK807.out (by decide)) (fun _ hk=>hk.1.2) (.slice Ao21 t816.length co21)) (fun _ hk=>hk.2) (.string a0_0)) (fun _ hk=>hk.2) (.string a0_1)) (fun _ hk=>hk.2) (.int .i64 a0_2)) (fun _ hk=>hk.2) (.int .i64 a0_3)) (fun _ hk=>hk.2) (.slice Ao14 t809.length co14)) (fun _ hk=>hk.2) (.int .i64 t812)) (fun _ hk=>hk.2) (.int .i64 t813)) (fun _ hk=>hk.2) (.int .i64 t814)) (fun _ hk=>hk.2) (.int .i64 t815)) (fun _ hk=>hk.2) (.slice Ao21 t816.length co21)) (fun _ hk=>trivial),by (with_reducible repeat (first|apply Kd.R_alloc|apply Kd.R_drewN|apply Kd.R_drew));exact Kd.R_mono (Kd.R_far (p:=⟨gb807,9,none⟩) (Kd.R_far (p:=⟨gb807,8,none⟩) (Kd.R_far (p:=⟨gb807,7,none⟩) (Kd.R_far (p:=⟨gb807,6,none⟩) (Kd.R_far (p:=⟨gb807,5,none⟩) (Kd.R_far (p:=⟨gb807,4,none⟩) (Kd.R_far (p:=⟨gb807,3,none⟩) (Kd.R_far (p:=⟨gb807,2,none⟩) (Kd.R_far (p:=⟨gb807,1,none⟩) (Kd.R_far (p:=⟨gb807,0,none⟩) (Kd.R_far (p:=⟨gb808,9,none⟩) (Kd.R_types (Kd.R_types HO818.out BK808.out (by decide)) BK807.out (by decide)) (fun _ hk=>hk.1.2) (.slice Ao21 t816.length co21)) (fun _ hk=>hk.2) (.string a0_0)) (fun _ hk=>hk.2) (.string a0_1)) (fun _ hk=>hk.2) (.int .i64 a0_2)) (fun _ hk=>hk.2) (.int .i64 a0_3)) (fun _ hk=>hk.2) (.slice Ao14 t809.length co14)) (fun _ hk=>hk.2) (.int .i64 t812)) (fun _ hk=>hk.2) (.int .i64 t813)) (fun _ hk=>hk.2) (.int .i64 t814)) (fun _ hk=>hk.2) (.int .i64 t815)) (fun _ hk=>hk.2) (.slice Ao21 t816.length co21)) (fun _ hk=>trivial),by repeat (first|(with_reducible first|exact HB.out|apply below_alloc|apply pw_below_drewN|apply below_drew1|refine below_set ?_ GE806.out|refine below_set ?_ GE807.out|refine below_set ?_ GE808.out)|exact HB.out)⟩
def laws_markMetricS.l0:Nat→List (S61)→Int→Int→Option (Int × (List (S61)))
 |0,_,_,_=>none
 |k+1,x0,x1,x5=>if x5<(x0.length:Int) then ((laws_markText.f k x1).bind fun t419=>(if 0≤x5 then ((some (x0.set (x5:Int).toNat (⟨t419,(rd_T61 x0 x5).f1,(rd_T61 x0 x5).f2⟩:S61):List (S61))).bind fun y420=>((some (y420.set (x5:Int).toNat (⟨(rd_T61 y420 x5).f0,wrap64 (x1+1),(rd_T61 y420 x5).f2⟩:S61):List (S61))).bind fun y421=>(laws_markMetricS.l0 k (y421.set (x5:Int).toNat (⟨(rd_T61 y421 x5).f0,(rd_T61 y421 x5).f1,wrap64 ((wrap64 (x1+1))+1)⟩:S61)) (wrap64 ((wrap64 ((wrap64 (x1+1))+1))+1)) (wrap64 (x5+1))))) else (none))) else (some (x1,x0))
def laws_markMetricS.f (k:Nat) (l0:List (S61)) (a1:Int):Option (Int × (List (S61))):=laws_markMetricS.l0 k l0 a1 0
set_option maxHeartbeats 8000000 in
set_option maxRecDepth 100000 in
theorem laws_markMetricS.calls (k:Nat) (P0_:Nat→Prop) (u9000_:Value) (l0:List (S61)) (a1:Int) (r1:Int) (r2:List (S61)) (w0 w:World) (hB:Below w0.heap.size w0 w) (ho0:Kd.R k61 61 w w0.heap.size P0_ u9000_ l0) (h:laws_markMetricS.f k l0 a1=some (r1,r2)) :
  Calls Tryz.prog 15 #[u9000_,.int .i64 a1] w fun e w'=>e=.returned (.int .i64 r1)∧Kd.R k61 61 w' w0.heap.size (fun k_=>(P0_ k_ ∨ w.heap.size≤k_)) u9000_ r2∧Below w0.heap.size w0 w'∧Kept w w' (fun k_=>P0_ k_):=by
 have HO0:=Aside0.mk (show Kd.R k61 61 w w0.heap.size (fun k_=>(P0_ k_ ∨ w.heap.size≤k_)) u9000_ l0 from Kd.R_mono ho0 (fun k_ hk=>(.inl hk)))
 have HK:=Aside0.mk (Kept.refl w (fun k_=>P0_ k_))
 have HW0:=Aside0.mk hB.size
 have HB:=Aside0.mk hB
 clear hB
 have H:(laws_markMetricS.l0 k l0 a1 0)=some (r1,r2):=h
 clear h
 have H':=Aside0.mk H
 clear H
 go_enter Tryz.func15,Tryz.ntmps15
 go_wp2
 go_loopg [1,5] k (fun kq v1 v5 w'=>∃ (x0_1:List (S61)) (x1_1:Int) (x5_1:Int),v1=.int .i64 x1_1∧v5=.int .i64 x5_1∧Aside0 (laws_markMetricS.l0 kq x0_1 x1_1 x5_1=some (r1,r2))∧Aside0 (kq≤k)∧Aside0 (Kd.R k61 61 w' w0.heap.size (fun k_=>(P0_ k_ ∨ w.heap.size≤k_)) u9000_ x0_1)∧Aside0 (Kept w w' (fun k_=>P0_ k_))∧Aside0 (Below w0.heap.size w0 w'))
 case atStart=>exact ⟨(l0),(a1),(0),(by first|rfl|(simp;done)|(simp [*];done)),(by first|rfl|(simp;done)|(simp [*];done)),H',⟨Nat.le_refl _⟩,⟨by (with_reducible repeat (first|apply Kd.R_alloc|apply Kd.R_drewN|apply Kd.R_drew));exact HO0.out⟩,⟨by repeat (first|(with_reducible first|exact HK.out|apply Kept.alloc|apply Kept.drewN|apply Kept.drew)|exact HK.out)⟩,⟨by repeat (first|(with_reducible first|exact HB.out|apply below_alloc|apply pw_below_drewN|apply below_drew1)|exact HB.out)⟩⟩
 case round =>
  clear H'
  try clear c1
  try clear p2
  obtain ⟨x0_1,x1_1,x5_1,rfl,rfl,HA,HK1,HO_0,HK,HB⟩:=hrel
  cases gk with
  |zero=>exact absurd HA.out (by simp [laws_markMetricS.l0])
  |succ k1 =>
   have H:=HA.out
   clear HA
   simp only [laws_markMetricS.l0] at H
   by_cases c3:x5_1<(x0_1.length:Int)
   ·rw [if_pos c3] at H
    have c3b0:decide (x5_1<(x0_1.length:Int))=true:=decide_eq_true c3
    clear c3
    replace H:=Option.bind_eq_some_iff.mp H
    obtain ⟨t419,A40,H⟩:=H
    replace H:(if 0≤x5_1 then ((some (x0_1.set (x5_1:Int).toNat (⟨t419,(rd_T61 x0_1 x5_1).f1,(rd_T61 x0_1 x5_1).f2⟩:S61):List (S61))).bind fun y420=>((some (y420.set (x5_1:Int).toNat (⟨(rd_T61 y420 x5_1).f0,wrap64 (x1_1+1),(rd_T61 y420 x5_1).f2⟩:S61):List (S61))).bind fun y421=>(laws_markMetricS.l0 k1 (y421.set (x5_1:Int).toNat (⟨(rd_T61 y421 x5_1).f0,(rd_T61 y421 x5_1).f1,wrap64 ((wrap64 (x1_1+1))+1)⟩:S61)) (wrap64 ((wrap64 ((wrap64 (x1_1+1))+1))+1)) (wrap64 (x5_1+1))))) else (none))=some (r1,r2):=H
    have A4:=Aside0.mk A40
    clear A40
    by_cases c5:0≤x5_1
    ·rw [if_pos c5] at H
     have c5b0:decide (0≤x5_1)=true:=decide_eq_true c5
     clear c5
     obtain ⟨y420,hy420⟩:∃ y_:List (S61),y_=(x0_1.set (x5_1:Int).toNat (⟨t419,(rd_T61 x0_1 x5_1).f1,(rd_T61 x0_1 x5_1).f2⟩:S61)):=⟨_,rfl⟩
     replace H:((some (y420.set (x5_1:Int).toNat (⟨(rd_T61 y420 x5_1).f0,wrap64 (x1_1+1),(rd_T61 y420 x5_1).f2⟩:S61):List (S61))).bind fun y421=>(laws_markMetricS.l0 k1 (y421.set (x5_1:Int).toNat (⟨(rd_T61 y421 x5_1).f0,(rd_T61 y421 x5_1).f1,wrap64 ((wrap64 (x1_1+1))+1)⟩:S61)) (wrap64 ((wrap64 ((wrap64 (x1_1+1))+1))+1)) (wrap64 (x5_1+1))))=some (r1,r2):=by first|(rw [hy420];with_reducible exact H)|(have H2_:=(Option.bind_some _ _).symm.trans H;rw [hy420];with_reducible exact H2_)|(have H2_:=(Option.bind_some _ _).symm.trans H;with_reducible exact H2_)|with_reducible exact H|(rw [hy420];exact H)|exact H
     have Ny420:=Aside0.mk hy420
     clear hy420
     obtain ⟨y421,hy421⟩:∃ y_:List (S61),y_=(y420.set (x5_1:Int).toNat (⟨(rd_T61 y420 x5_1).f0,wrap64 (x1_1+1),(rd_T61 y420 x5_1).f2⟩:S61)):=⟨_,rfl⟩
     replace H:(laws_markMetricS.l0 k1 (y421.set (x5_1:Int).toNat (⟨(rd_T61 y421 x5_1).f0,(rd_T61 y421 x5_1).f1,wrap64 ((wrap64 (x1_1+1))+1)⟩:S61)) (wrap64 ((wrap64 ((wrap64 (x1_1+1))+1))+1)) (wrap64 (x5_1+1)))=some (r1,r2):=by first|(rw [hy421];with_reducible exact H)|(have H2_:=(Option.bind_some _ _).symm.trans H;rw [hy421];with_reducible exact H2_)|(have H2_:=(Option.bind_some _ _).symm.trans H;with_reducible exact H2_)|with_reducible exact H|(rw [hy421];exact H)|exact H
     have Ny421:=Aside0.mk hy421
     clear hy421
     obtain ⟨y422,hy422⟩:∃ y_:List (S61),y_=(y421.set (x5_1:Int).toNat (⟨(rd_T61 y421 x5_1).f0,(rd_T61 y421 x5_1).f1,wrap64 ((wrap64 (x1_1+1))+1)⟩:S61)):=⟨_,rfl⟩
     replace H:(laws_markMetricS.l0 k1 y422 (wrap64 ((wrap64 ((wrap64 (x1_1+1))+1))+1)) (wrap64 (x5_1+1)))=some (r1,r2):=by first|(rw [hy422];with_reducible exact H)|(have H2_:=(Option.bind_some _ _).symm.trans H;rw [hy422];with_reducible exact H2_)|(have H2_:=(Option.bind_some _ _).symm.trans H;with_reducible exact H2_)|with_reducible exact H|(rw [hy422];exact H)|exact H
     have Ny422:=Aside0.mk hy422
     clear hy422
     have H':=Aside0.mk H
     clear H
     obtain ⟨Ao9,co9,eo9⟩:=Kd.R_slice HO_0.out
     subst eo9
     go_wp2_with (first|((with_reducible refine gate_callee (f:=50) rfl ?_);refine goesL_ (some 15) rfl rfl Tryz.func50 (by kernel_rfl) rfl #[.int .i64 x1_1] rfl (by (try simp only [List.map_toArray,List.map_cons,List.map_nil]);first|done|rfl|(simp only [List.length_drop,List.length_take];rfl)) ?_;(with_reducible refine (laws_markText.calls k1 x1_1 t419 _ A4.out).mono ?_);rintro e w10 ⟨rfl,hb⟩;refine ⟨_,rfl,?_⟩;have n0_:=Aside0.mk (Kd.R_below (by (with_reducible repeat (first|apply Kd.R_alloc|apply Kd.R_drewN|apply Kd.R_drew));exact HO_0.out) hb);have n1_:=Aside0.mk (Kept.below (S:=(fun k_=>P0_ k_)) (by repeat (first|(with_reducible first|exact HK.out|apply Kept.alloc|apply Kept.drewN|apply Kept.drew)|exact HK.out)) hb);have n2_:=Aside0.mk (below_step (by repeat (first|(with_reducible first|exact HB.out|apply below_alloc|apply pw_below_drewN|apply below_drew1)|exact HB.out)) hb);clear HO_0;clear HK;clear HB;have HO_0:=n0_;have HK:=n1_;have HB:=n2_;clear n0_ n1_ n2_;(try clear hb);(try clear hb2);(try clear hk);(try clear hi);have p6:0≤(x5_1:Int):=of_decide_eq_true (by first|(with_reducible assumption)|assumption);have q6:(x5_1:Int)<((x0_1.length:Int):Int):=of_decide_eq_true (by first|(with_reducible assumption)|assumption);obtain ⟨go6,co6,eo6,gb6,gl6,cl6,HG6⟩:=Kd.R_form HO_0.out (by omega);(first|cases eo6|(injection eo6 with ea_ en_ ec_;(first|subst ea_|(injection ea_ with ea_;subst ea_));subst ec_;clear en_));have GB6:=Aside0.mk gb6;have GG6:=Aside0.mk HG6;clear gb6 gl6 HG6;have HMgo6:=Aside0.mk (show (P0_ go6 ∨ w.heap.size≤go6) from (HO_0.out.1 _ rfl));obtain ⟨ce6,hcl6,hM6,hcc6,hfr6⟩:=Kd.R_elem HO_0.out z61 (x5_1:Int) p6 q6;obtain rfl:=k61_openM hM6;have hx6_0:w10.cell? ⟨go6,(x5_1:Int).toNat*3,none⟩=some (.string ((rd_T61 x0_1 x5_1).f0)):=hcc6 0 _ rfl;have hx6_1:w10.cell? ⟨go6,(x5_1:Int).toNat*3+1,none⟩=some (.int .i64 ((rd_T61 x0_1 x5_1).f1)):=hcc6 1 _ rfl;have hx6_2:w10.cell? ⟨go6,(x5_1:Int).toNat*3+2,none⟩=some (.int .i64 ((rd_T61 x0_1 x5_1).f2)):=hcc6 2 _ rfl;have hf6_0:w10.frozen? ⟨go6,(x5_1:Int).toNat*3,none⟩=false:=hfr6 0;have hf6_1:w10.frozen? ⟨go6,(x5_1:Int).toNat*3+1,none⟩=false:=hfr6 1;have hf6_2:w10.frozen? ⟨go6,(x5_1:Int).toNat*3+2,none⟩=false:=hfr6 2;clear hcl6 hcc6 hfr6 hM6;replace p6:=eq_true p6;replace q6:=eq_true q6;have HX11:=Aside0.mk (show Kd.R k61 61 w10 w0.heap.size (fun k_=>(P0_ k_ ∨ w.heap.size≤k_)) (.slice (some ⟨go6,0,none⟩) x0_1.length co9) x0_1 from (by (with_reducible repeat (first|apply Kd.R_alloc|apply Kd.R_drewN|apply Kd.R_drew));exact HO_0.out));obtain ⟨ce11,hcl11,hM11,hcc11,hfr11⟩:=Kd.R_elem HX11.out z61 (x5_1:Int) (of_decide_eq_true (by first|(with_reducible assumption)|assumption)) (by have h_:(x5_1:Int)<((x0_1.length:Int):Int):=of_decide_eq_true (by first|(with_reducible assumption)|assumption);first|exact h_|(have e_:=(Kd.R_reads' HO_0.out).1;omega)|simpa using h_);obtain rfl:=k61_openM hM11;have HP11:=Kd.R_seg HX11.out (x5_1:Int) (of_decide_eq_true (by first|(with_reducible assumption)|assumption)) (by have h_:(x5_1:Int)<((x0_1.length:Int):Int):=of_decide_eq_true (by first|(with_reducible assumption)|assumption);first|exact h_|(have e_:=(Kd.R_reads' HO_0.out).1;omega)|simpa using h_) (seg:=[.string t419]) (j:=0) hcl11 hcc11 (show 1≤3 from by decide) (x':=(⟨t419,(rd_T61 x0_1 x5_1).f1,(rd_T61 x0_1 x5_1).f2⟩:S61)) (k61_mkM _ _ _ (⟨t419,(rd_T61 x0_1 x5_1).f1,(rd_T61 x0_1 x5_1).f2⟩:S61) ) (fun _ hk=>hk);have hx11_0:=hcc11 0 _ rfl;(try simp only [show (k61).sz=3 from rfl,Nat.mul_one,Nat.add_zero] at hx11_0);have hf11_0:=hfr11 0;(try simp only [show (k61).sz=3 from rfl,Nat.mul_one,Nat.add_zero] at hf11_0);clear hcl11 hcc11 hfr11 hM11)|((with_reducible refine gate_store (t:=9) (p:=17) rfl ?_);refine store_event (t:=9) (p:=17) (v:=?vo_w12) (w1:=(w10.setCell ⟨go6,(x5_1:Int).toNat*3,none⟩ (.string t419))) ?hg ?ho ?hn ?hr ?_;(case ho=>rfl);(case hg=>rfl);(case hn=>rfl);(case hr=>first|(go_simp;done)|(go_simp;rfl));intro w12 hw;have hg:w10.grownBy w12 (some go6):=(by rw [hw];exact HP11.2);have hp_:Kd.R k61 61 w12 w0.heap.size (fun k_=>(P0_ k_ ∨ w.heap.size≤k_)) (.slice (some ⟨go6,0,none⟩) x0_1.length co9) y420:=(by rw [hw,Ny420.out];exact HP11.1);clear HP11;have n0_:=Aside0.mk (hp_);have n1_:=Aside0.mk ((by rw [hw];exact below_set (HB.out) GB6.out:Below w0.heap.size w0 w12));have n2_:=Aside0.mk (Kept.of_grown (S:=(fun k_=>P0_ k_)) hg (by repeat (first|(with_reducible first|exact HK.out|apply Kept.alloc|apply Kept.drewN|apply Kept.drew)|exact HK.out)) (fun k_ e_=>(HO_0.out.1 k_ e_)));clear HO_0;clear HB;clear HK;have HO_0:=n0_;have HB:=n1_;have HK:=n2_;clear n0_ n1_ n2_;clear hg hw hp_;have p7:0≤(x5_1:Int):=of_decide_eq_true (by first|(with_reducible assumption)|assumption);have q7:(x5_1:Int)<((x0_1.length:Int):Int):=of_decide_eq_true (by first|(with_reducible assumption)|assumption);obtain ⟨ce7,hcl7,hM7,hcc7,hfr7⟩:=Kd.R_elem HO_0.out z61 (x5_1:Int) p7 q7;obtain rfl:=k61_openM hM7;have hx7_0:w12.cell? ⟨go6,(x5_1:Int).toNat*3,none⟩=some (.string ((rd_T61 y420 x5_1).f0)):=hcc7 0 _ rfl;have hx7_1:w12.cell? ⟨go6,(x5_1:Int).toNat*3+1,none⟩=some (.int .i64 ((rd_T61 y420 x5_1).f1)):=hcc7 1 _ rfl;have hx7_2:w12.cell? ⟨go6,(x5_1:Int).toNat*3+2,none⟩=some (.int .i64 ((rd_T61 y420 x5_1).f2)):=hcc7 2 _ rfl;have hf7_0:w12.frozen? ⟨go6,(x5_1:Int).toNat*3,none⟩=false:=hfr7 0;have hf7_1:w12.frozen? ⟨go6,(x5_1:Int).toNat*3+1,none⟩=false:=hfr7 1;have hf7_2:w12.frozen? ⟨go6,(x5_1:Int).toNat*3+2,none⟩=false:=hfr7 2;clear hcl7 hcc7 hfr7 hM7;replace p7:=eq_true p7;replace q7:=eq_true q7;have HX13:=Aside0.mk (show Kd.R k61 61 w12 w0.heap.size (fun k_=>(P0_ k_ ∨ w.heap.size≤k_)) (.slice (some ⟨go6,0,none⟩) x0_1.length co9) y420 from (by (with_reducible repeat (first|apply Kd.R_alloc|apply Kd.R_drewN|apply Kd.R_drew));exact HO_0.out));obtain ⟨ce13,hcl13,hM13,hcc13,hfr13⟩:=Kd.R_elem HX13.out z61 (x5_1:Int) (of_decide_eq_true (by first|(with_reducible assumption)|assumption)) (by have h_:(x5_1:Int)<((x0_1.length:Int):Int):=of_decide_eq_true (by first|(with_reducible assumption)|assumption);first|exact h_|(have e_:=(Kd.R_reads' HO_0.out).1;omega)|simpa using h_);obtain rfl:=k61_openM hM13;have HP13:=Kd.R_seg HX13.out (x5_1:Int) (of_decide_eq_true (by first|(with_reducible assumption)|assumption)) (by have h_:(x5_1:Int)<((x0_1.length:Int):Int):=of_decide_eq_true (by first|(with_reducible assumption)|assumption);first|exact h_|(have e_:=(Kd.R_reads' HO_0.out).1;omega)|simpa using h_) (seg:=[.int .i64 (wrap64 (x1_1+1))]) (j:=1) hcl13 hcc13 (show 2≤3 from by decide) (x':=(⟨(rd_T61 y420 x5_1).f0,wrap64 (x1_1+1),(rd_T61 y420 x5_1).f2⟩:S61)) (k61_mkM _ _ _ (⟨(rd_T61 y420 x5_1).f0,wrap64 (x1_1+1),(rd_T61 y420 x5_1).f2⟩:S61) ) (fun _ hk=>hk);have hx13_1:=hcc13 1 _ rfl;(try simp only [show (k61).sz=3 from rfl,Nat.mul_one,Nat.add_zero] at hx13_1);have hf13_1:=hfr13 1;(try simp only [show (k61).sz=3 from rfl,Nat.mul_one,Nat.add_zero] at hf13_1);clear hcl13 hcc13 hfr13 hM13)|((with_reducible refine gate_store (t:=3) (p:=24) rfl ?_);refine store_event (t:=3) (p:=24) (v:=?vo_w14) (w1:=(w12.setCell ⟨go6,(x5_1:Int).toNat*3+1,none⟩ (.int .i64 (wrap64 (x1_1+1))))) ?hg ?ho ?hn ?hr ?_;(case ho=>rfl);(case hg=>rfl);(case hn=>rfl);(case hr=>first|(go_simp;done)|(go_simp;rfl));intro w14 hw;have hg:w12.grownBy w14 (some go6):=(by rw [hw];exact HP13.2);have hp_:Kd.R k61 61 w14 w0.heap.size (fun k_=>(P0_ k_ ∨ w.heap.size≤k_)) (.slice (some ⟨go6,0,none⟩) x0_1.length co9) y421:=(by rw [hw,Ny421.out];exact HP13.1);clear HP13;have n0_:=Aside0.mk (hp_);have n1_:=Aside0.mk ((by rw [hw];exact below_set (HB.out) GB6.out:Below w0.heap.size w0 w14));have n2_:=Aside0.mk (Kept.of_grown (S:=(fun k_=>P0_ k_)) hg (by repeat (first|(with_reducible first|exact HK.out|apply Kept.alloc|apply Kept.drewN|apply Kept.drew)|exact HK.out)) (fun k_ e_=>(HO_0.out.1 k_ e_)));clear HO_0;clear HB;clear HK;have HO_0:=n0_;have HB:=n1_;have HK:=n2_;clear n0_ n1_ n2_;clear hg hw hp_;have p8:0≤(x5_1:Int):=of_decide_eq_true (by first|(with_reducible assumption)|assumption);have q8:(x5_1:Int)<((x0_1.length:Int):Int):=of_decide_eq_true (by first|(with_reducible assumption)|assumption);obtain ⟨ce8,hcl8,hM8,hcc8,hfr8⟩:=Kd.R_elem HO_0.out z61 (x5_1:Int) p8 q8;obtain rfl:=k61_openM hM8;have hx8_0:w14.cell? ⟨go6,(x5_1:Int).toNat*3,none⟩=some (.string ((rd_T61 y421 x5_1).f0)):=hcc8 0 _ rfl;have hx8_1:w14.cell? ⟨go6,(x5_1:Int).toNat*3+1,none⟩=some (.int .i64 ((rd_T61 y421 x5_1).f1)):=hcc8 1 _ rfl;have hx8_2:w14.cell? ⟨go6,(x5_1:Int).toNat*3+2,none⟩=some (.int .i64 ((rd_T61 y421 x5_1).f2)):=hcc8 2 _ rfl;have hf8_0:w14.frozen? ⟨go6,(x5_1:Int).toNat*3,none⟩=false:=hfr8 0;have hf8_1:w14.frozen? ⟨go6,(x5_1:Int).toNat*3+1,none⟩=false:=hfr8 1;have hf8_2:w14.frozen? ⟨go6,(x5_1:Int).toNat*3+2,none⟩=false:=hfr8 2;clear hcl8 hcc8 hfr8 hM8;replace p8:=eq_true p8;replace q8:=eq_true q8;have HX15:=Aside0.mk (show Kd.R k61 61 w14 w0.heap.size (fun k_=>(P0_ k_ ∨ w.heap.size≤k_)) (.slice (some ⟨go6,0,none⟩) x0_1.length co9) y421 from (by (with_reducible repeat (first|apply Kd.R_alloc|apply Kd.R_drewN|apply Kd.R_drew));exact HO_0.out));obtain ⟨ce15,hcl15,hM15,hcc15,hfr15⟩:=Kd.R_elem HX15.out z61 (x5_1:Int) (of_decide_eq_true (by first|(with_reducible assumption)|assumption)) (by have h_:(x5_1:Int)<((x0_1.length:Int):Int):=of_decide_eq_true (by first|(with_reducible assumption)|assumption);first|exact h_|(have e_:=(Kd.R_reads' HO_0.out).1;omega)|simpa using h_);obtain rfl:=k61_openM hM15;have HP15:=Kd.R_seg HX15.out (x5_1:Int) (of_decide_eq_true (by first|(with_reducible assumption)|assumption)) (by have h_:(x5_1:Int)<((x0_1.length:Int):Int):=of_decide_eq_true (by first|(with_reducible assumption)|assumption);first|exact h_|(have e_:=(Kd.R_reads' HO_0.out).1;omega)|simpa using h_) (seg:=[.int .i64 (wrap64 ((wrap64 (x1_1+1))+1))]) (j:=2) hcl15 hcc15 (show 3≤3 from by decide) (x':=(⟨(rd_T61 y421 x5_1).f0,(rd_T61 y421 x5_1).f1,wrap64 ((wrap64 (x1_1+1))+1)⟩:S61)) (k61_mkM _ _ _ (⟨(rd_T61 y421 x5_1).f0,(rd_T61 y421 x5_1).f1,wrap64 ((wrap64 (x1_1+1))+1)⟩:S61) ) (fun _ hk=>hk);have hx15_2:=hcc15 2 _ rfl;(try simp only [show (k61).sz=3 from rfl,Nat.mul_one,Nat.add_zero] at hx15_2);have hf15_2:=hfr15 2;(try simp only [show (k61).sz=3 from rfl,Nat.mul_one,Nat.add_zero] at hf15_2);clear hcl15 hcc15 hfr15 hM15)|((with_reducible refine gate_store (t:=3) (p:=31) rfl ?_);refine store_event (t:=3) (p:=31) (v:=?vo_w16) (w1:=(w14.setCell ⟨go6,(x5_1:Int).toNat*3+2,none⟩ (.int .i64 (wrap64 ((wrap64 (x1_1+1))+1))))) ?hg ?ho ?hn ?hr ?_;(case ho=>rfl);(case hg=>rfl);(case hn=>rfl);(case hr=>first|(go_simp;done)|(go_simp;rfl));intro w16 hw;have hg:w14.grownBy w16 (some go6):=(by rw [hw];exact HP15.2);have hp_:Kd.R k61 61 w16 w0.heap.size (fun k_=>(P0_ k_ ∨ w.heap.size≤k_)) (.slice (some ⟨go6,0,none⟩) x0_1.length co9) y422:=(by rw [hw,Ny422.out];exact HP15.1);clear HP15;have n0_:=Aside0.mk (hp_);have n1_:=Aside0.mk ((by rw [hw];exact below_set (HB.out) GB6.out:Below w0.heap.size w0 w16));have n2_:=Aside0.mk (Kept.of_grown (S:=(fun k_=>P0_ k_)) hg (by repeat (first|(with_reducible first|exact HK.out|apply Kept.alloc|apply Kept.drewN|apply Kept.drew)|exact HK.out)) (fun k_ e_=>(HO_0.out.1 k_ e_)));clear HO_0;clear HB;clear HK;have HO_0:=n0_;have HB:=n1_;have HK:=n2_;clear n0_ n1_ n2_;clear hg hw hp_))
     go_roundg k1
     case measure=>have:=HK1.out;omega
     case rel=>exact ⟨(y422),(wrap64 ((wrap64 ((wrap64 (x1_1+1))+1))+1)),(wrap64 (x5_1+1)),(by first|rfl|(simp;done)|(simp [*];done)),(by first|rfl|(simp;done)|(simp [*];done)),H',⟨by have:=HK1.out;omega⟩,⟨by (with_reducible repeat (first|apply Kd.R_alloc|apply Kd.R_drewN|apply Kd.R_drew));exact HO_0.out⟩,⟨by repeat (first|(with_reducible first|exact HK.out|apply Kept.alloc|apply Kept.drewN|apply Kept.drew)|exact HK.out)⟩,⟨by repeat (first|(with_reducible first|exact HB.out|apply below_alloc|apply pw_below_drewN|apply below_drew1)|exact HB.out)⟩⟩
    ·rw [if_neg c5] at H
     exact absurd H (by simp)
   ·rw [if_neg c3] at H
    have c3b0:decide (x5_1<(x0_1.length:Int))=false:=decide_eq_false c3
    clear c3
    simp only [Option.some.injEq,Prod.mk.injEq] at H
    obtain ⟨rfl,rfl⟩:=H
    obtain ⟨Ao17,co17,eo17⟩:=Kd.R_slice HO_0.out
    subst eo17
    go_wp2
    go_ret
    exact ⟨by first|rfl|(simp [errW_none,errW_some]<;>rfl)|(simp [*,errW_none,errW_some]<;>rfl),by (with_reducible repeat (first|apply Kd.R_alloc|apply Kd.R_drewN|apply Kd.R_drew));exact HO_0.out,by repeat (first|(with_reducible first|exact HB.out|apply below_alloc|apply pw_below_drewN|apply below_drew1)|exact HB.out),by repeat (first|(with_reducible first|exact HK.out|apply Kept.alloc|apply Kept.drewN|apply Kept.drew)|exact HK.out)⟩
def laws_markNoteS.l0:Nat→List (S124)→Int→Int→Option (Int × (List (S124)))
 |0,_,_,_=>none
 |k+1,x0,x1,x5=>if x5<(x0.length:Int) then ((laws_markText.f k x1).bind fun t1154=>(if 0≤x5 then ((some (x0.set (x5:Int).toNat (⟨t1154,(rd_T124 x0 x5).f1⟩:S124):List (S124))).bind fun y1155=>((laws_markText.f k (wrap64 (x1+1))).bind fun t1156=>(laws_markNoteS.l0 k (y1155.set (x5:Int).toNat (⟨(rd_T124 y1155 x5).f0,t1156⟩:S124)) (wrap64 ((wrap64 (x1+1))+1)) (wrap64 (x5+1))))) else (none))) else (some (x1,x0))
def laws_markNoteS.f (k:Nat) (l0:List (S124)) (a1:Int):Option (Int × (List (S124))):=laws_markNoteS.l0 k l0 a1 0
set_option maxHeartbeats 8000000 in
set_option maxRecDepth 100000 in
theorem laws_markNoteS.calls (k:Nat) (P0_:Nat→Prop) (u9000_:Value) (l0:List (S124)) (a1:Int) (r1:Int) (r2:List (S124)) (w0 w:World) (hB:Below w0.heap.size w0 w) (ho0:Kd.R k124 124 w w0.heap.size P0_ u9000_ l0) (h:laws_markNoteS.f k l0 a1=some (r1,r2)) :
  Calls Tryz.prog 70 #[u9000_,.int .i64 a1] w fun e w'=>e=.returned (.int .i64 r1)∧Kd.R k124 124 w' w0.heap.size (fun k_=>(P0_ k_ ∨ w.heap.size≤k_)) u9000_ r2∧Below w0.heap.size w0 w'∧Kept w w' (fun k_=>P0_ k_):=by
 have HO0:=Aside0.mk (show Kd.R k124 124 w w0.heap.size (fun k_=>(P0_ k_ ∨ w.heap.size≤k_)) u9000_ l0 from Kd.R_mono ho0 (fun k_ hk=>(.inl hk)))
 have HK:=Aside0.mk (Kept.refl w (fun k_=>P0_ k_))
 have HW0:=Aside0.mk hB.size
 have HB:=Aside0.mk hB
 clear hB
 have H:(laws_markNoteS.l0 k l0 a1 0)=some (r1,r2):=h
 clear h
 have H':=Aside0.mk H
 clear H
 go_enter Tryz.func70,Tryz.ntmps70
 go_wp2
 go_loopg [1,5] k (fun kq v1 v5 w'=>∃ (x0_1:List (S124)) (x1_1:Int) (x5_1:Int),v1=.int .i64 x1_1∧v5=.int .i64 x5_1∧Aside0 (laws_markNoteS.l0 kq x0_1 x1_1 x5_1=some (r1,r2))∧Aside0 (kq≤k)∧Aside0 (Kd.R k124 124 w' w0.heap.size (fun k_=>(P0_ k_ ∨ w.heap.size≤k_)) u9000_ x0_1)∧Aside0 (Kept w w' (fun k_=>P0_ k_))∧Aside0 (Below w0.heap.size w0 w'))
 case atStart=>exact ⟨(l0),(a1),(0),(by first|rfl|(simp;done)|(simp [*];done)),(by first|rfl|(simp;done)|(simp [*];done)),H',⟨Nat.le_refl _⟩,⟨by (with_reducible repeat (first|apply Kd.R_alloc|apply Kd.R_drewN|apply Kd.R_drew));exact HO0.out⟩,⟨by repeat (first|(with_reducible first|exact HK.out|apply Kept.alloc|apply Kept.drewN|apply Kept.drew)|exact HK.out)⟩,⟨by repeat (first|(with_reducible first|exact HB.out|apply below_alloc|apply pw_below_drewN|apply below_drew1)|exact HB.out)⟩⟩
 case round =>
  clear H'
  try clear p2
  obtain ⟨x0_1,x1_1,x5_1,rfl,rfl,HA,HK1,HO_0,HK,HB⟩:=hrel
  cases gk with
  |zero=>exact absurd HA.out (by simp [laws_markNoteS.l0])
  |succ k1 =>
   have H:=HA.out
   clear HA
   simp only [laws_markNoteS.l0] at H
   by_cases c3:x5_1<(x0_1.length:Int)
   ·rw [if_pos c3] at H
    have c3b0:decide (x5_1<(x0_1.length:Int))=true:=decide_eq_true c3
    clear c3
    replace H:=Option.bind_eq_some_iff.mp H
    obtain ⟨t1154,A40,H⟩:=H
    replace H:(if 0≤x5_1 then ((some (x0_1.set (x5_1:Int).toNat (⟨t1154,(rd_T124 x0_1 x5_1).f1⟩:S124):List (S124))).bind fun y1155=>((laws_markText.f k1 (wrap64 (x1_1+1))).bind fun t1156=>(laws_markNoteS.l0 k1 (y1155.set (x5_1:Int).toNat (⟨(rd_T124 y1155 x5_1).f0,t1156⟩:S124)) (wrap64 ((wrap64 (x1_1+1))+1)) (wrap64 (x5_1+1))))) else (none))=some (r1,r2):=H
    have A4:=Aside0.mk A40
    clear A40
    by_cases c5:0≤x5_1
    ·rw [if_pos c5] at H
     have c5b0:decide (0≤x5_1)=true:=decide_eq_true c5
     clear c5
     obtain ⟨y1155,hy1155⟩:∃ y_:List (S124),y_=(x0_1.set (x5_1:Int).toNat (⟨t1154,(rd_T124 x0_1 x5_1).f1⟩:S124)):=⟨_,rfl⟩
     replace H:((laws_markText.f k1 (wrap64 (x1_1+1))).bind fun t1156=>(laws_markNoteS.l0 k1 (y1155.set (x5_1:Int).toNat (⟨(rd_T124 y1155 x5_1).f0,t1156⟩:S124)) (wrap64 ((wrap64 (x1_1+1))+1)) (wrap64 (x5_1+1))))=some (r1,r2):=by first|(rw [hy1155];with_reducible exact H)|(have H2_:=(Option.bind_some _ _).symm.trans H;rw [hy1155];with_reducible exact H2_)|(have H2_:=(Option.bind_some _ _).symm.trans H;with_reducible exact H2_)|with_reducible exact H|(rw [hy1155];exact H)|exact H
     have Ny1155:=Aside0.mk hy1155
     clear hy1155
     replace H:=Option.bind_eq_some_iff.mp H
     obtain ⟨t1156,A70,H⟩:=H
     replace H:(laws_markNoteS.l0 k1 (y1155.set (x5_1:Int).toNat (⟨(rd_T124 y1155 x5_1).f0,t1156⟩:S124)) (wrap64 ((wrap64 (x1_1+1))+1)) (wrap64 (x5_1+1)))=some (r1,r2):=H
     have A7:=Aside0.mk A70
     clear A70
     obtain ⟨y1157,hy1157⟩:∃ y_:List (S124),y_=(y1155.set (x5_1:Int).toNat (⟨(rd_T124 y1155 x5_1).f0,t1156⟩:S124)):=⟨_,rfl⟩
     replace H:(laws_markNoteS.l0 k1 y1157 (wrap64 ((wrap64 (x1_1+1))+1)) (wrap64 (x5_1+1)))=some (r1,r2):=by first|(rw [hy1157];with_reducible exact H)|(have H2_:=(Option.bind_some _ _).symm.trans H;rw [hy1157];with_reducible exact H2_)|(have H2_:=(Option.bind_some _ _).symm.trans H;with_reducible exact H2_)|with_reducible exact H|(rw [hy1157];exact H)|exact H
     have Ny1157:=Aside0.mk hy1157
     clear hy1157
     have H':=Aside0.mk H
     clear H
     obtain ⟨Ao9,co9,eo9⟩:=Kd.R_slice HO_0.out
     subst eo9
     go_wp2_with (first|((with_reducible refine gate_callee (f:=50) rfl ?_);refine goesL_ (some 15) rfl rfl Tryz.func50 (by kernel_rfl) rfl #[.int .i64 x1_1] rfl (by (try simp only [List.map_toArray,List.map_cons,List.map_nil]);first|done|rfl|(simp only [List.length_drop,List.length_take];rfl)) ?_;(with_reducible refine (laws_markText.calls k1 x1_1 t1154 _ A4.out).mono ?_);rintro e w10 ⟨rfl,hb⟩;refine ⟨_,rfl,?_⟩;have n0_:=Aside0.mk (Kd.R_below (by (with_reducible repeat (first|apply Kd.R_alloc|apply Kd.R_drewN|apply Kd.R_drew));exact HO_0.out) hb);have n1_:=Aside0.mk (Kept.below (S:=(fun k_=>P0_ k_)) (by repeat (first|(with_reducible first|exact HK.out|apply Kept.alloc|apply Kept.drewN|apply Kept.drew)|exact HK.out)) hb);have n2_:=Aside0.mk (below_step (by repeat (first|(with_reducible first|exact HB.out|apply below_alloc|apply pw_below_drewN|apply below_drew1)|exact HB.out)) hb);clear HO_0;clear HK;clear HB;have HO_0:=n0_;have HK:=n1_;have HB:=n2_;clear n0_ n1_ n2_;(try clear hb);(try clear hb2);(try clear hk);(try clear hi);have p6:0≤(x5_1:Int):=of_decide_eq_true (by first|(with_reducible assumption)|assumption);have q6:(x5_1:Int)<((x0_1.length:Int):Int):=of_decide_eq_true (by first|(with_reducible assumption)|assumption);obtain ⟨go6,co6,eo6,gb6,gl6,cl6,HG6⟩:=Kd.R_form HO_0.out (by omega);(first|cases eo6|(injection eo6 with ea_ en_ ec_;(first|subst ea_|(injection ea_ with ea_;subst ea_));subst ec_;clear en_));have GB6:=Aside0.mk gb6;have GG6:=Aside0.mk HG6;clear gb6 gl6 HG6;have HMgo6:=Aside0.mk (show (P0_ go6 ∨ w.heap.size≤go6) from (HO_0.out.1 _ rfl));obtain ⟨ce6,hcl6,hM6,hcc6,hfr6⟩:=Kd.R_elem HO_0.out z124 (x5_1:Int) p6 q6;obtain rfl:=k124_openM hM6;have hx6_0:w10.cell? ⟨go6,(x5_1:Int).toNat*2,none⟩=some (.string ((rd_T124 x0_1 x5_1).f0)):=hcc6 0 _ rfl;have hx6_1:w10.cell? ⟨go6,(x5_1:Int).toNat*2+1,none⟩=some (.string ((rd_T124 x0_1 x5_1).f1)):=hcc6 1 _ rfl;have hf6_0:w10.frozen? ⟨go6,(x5_1:Int).toNat*2,none⟩=false:=hfr6 0;have hf6_1:w10.frozen? ⟨go6,(x5_1:Int).toNat*2+1,none⟩=false:=hfr6 1;clear hcl6 hcc6 hfr6 hM6;replace p6:=eq_true p6;replace q6:=eq_true q6;have HX11:=Aside0.mk (show Kd.R k124 124 w10 w0.heap.size (fun k_=>(P0_ k_ ∨ w.heap.size≤k_)) (.slice (some ⟨go6,0,none⟩) x0_1.length co9) x0_1 from (by (with_reducible repeat (first|apply Kd.R_alloc|apply Kd.R_drewN|apply Kd.R_drew));exact HO_0.out));obtain ⟨ce11,hcl11,hM11,hcc11,hfr11⟩:=Kd.R_elem HX11.out z124 (x5_1:Int) (of_decide_eq_true (by first|(with_reducible assumption)|assumption)) (by have h_:(x5_1:Int)<((x0_1.length:Int):Int):=of_decide_eq_true (by first|(with_reducible assumption)|assumption);first|exact h_|(have e_:=(Kd.R_reads' HO_0.out).1;omega)|simpa using h_);obtain rfl:=k124_openM hM11;have HP11:=Kd.R_seg HX11.out (x5_1:Int) (of_decide_eq_true (by first|(with_reducible assumption)|assumption)) (by have h_:(x5_1:Int)<((x0_1.length:Int):Int):=of_decide_eq_true (by first|(with_reducible assumption)|assumption);first|exact h_|(have e_:=(Kd.R_reads' HO_0.out).1;omega)|simpa using h_) (seg:=[.string t1154]) (j:=0) hcl11 hcc11 (show 1≤2 from by decide) (x':=(⟨t1154,(rd_T124 x0_1 x5_1).f1⟩:S124)) (k124_mkM _ _ _ (⟨t1154,(rd_T124 x0_1 x5_1).f1⟩:S124) ) (fun _ hk=>hk);have hx11_0:=hcc11 0 _ rfl;(try simp only [show (k124).sz=2 from rfl,Nat.mul_one,Nat.add_zero] at hx11_0);have hf11_0:=hfr11 0;(try simp only [show (k124).sz=2 from rfl,Nat.mul_one,Nat.add_zero] at hf11_0);clear hcl11 hcc11 hfr11 hM11)|((with_reducible refine gate_store (t:=9) (p:=17) rfl ?_);refine store_event (t:=9) (p:=17) (v:=?vo_w12) (w1:=(w10.setCell ⟨go6,(x5_1:Int).toNat*2,none⟩ (.string t1154))) ?hg ?ho ?hn ?hr ?_;(case ho=>rfl);(case hg=>rfl);(case hn=>rfl);(case hr=>first|(go_simp;done)|(go_simp;rfl));intro w12 hw;have hg:w10.grownBy w12 (some go6):=(by rw [hw];exact HP11.2);have hp_:Kd.R k124 124 w12 w0.heap.size (fun k_=>(P0_ k_ ∨ w.heap.size≤k_)) (.slice (some ⟨go6,0,none⟩) x0_1.length co9) y1155:=(by rw [hw,Ny1155.out];exact HP11.1);clear HP11;have n0_:=Aside0.mk (hp_);have n1_:=Aside0.mk ((by rw [hw];exact below_set (HB.out) GB6.out:Below w0.heap.size w0 w12));have n2_:=Aside0.mk (Kept.of_grown (S:=(fun k_=>P0_ k_)) hg (by repeat (first|(with_reducible first|exact HK.out|apply Kept.alloc|apply Kept.drewN|apply Kept.drew)|exact HK.out)) (fun k_ e_=>(HO_0.out.1 k_ e_)));clear HO_0;clear HB;clear HK;have HO_0:=n0_;have HB:=n1_;have HK:=n2_;clear n0_ n1_ n2_;clear hg hw hp_)|((with_reducible refine gate_callee (f:=50) rfl ?_);refine goesL_ (some 23) rfl rfl Tryz.func50 (by kernel_rfl) rfl #[.int .i64 (wrap64 (x1_1+1))] rfl (by (try simp only [List.map_toArray,List.map_cons,List.map_nil]);first|done|rfl|(simp only [List.length_drop,List.length_take];rfl)) ?_;(with_reducible refine (laws_markText.calls k1 (wrap64 (x1_1+1)) t1156 _ A7.out).mono ?_);rintro e w13 ⟨rfl,hb⟩;refine ⟨_,rfl,?_⟩;have n0_:=Aside0.mk (Kd.R_below (by (with_reducible repeat (first|apply Kd.R_alloc|apply Kd.R_drewN|apply Kd.R_drew));exact HO_0.out) hb);have n1_:=Aside0.mk (Kept.below (S:=(fun k_=>P0_ k_)) (by repeat (first|(with_reducible first|exact HK.out|apply Kept.alloc|apply Kept.drewN|apply Kept.drew)|exact HK.out)) hb);have n2_:=Aside0.mk (below_step (by repeat (first|(with_reducible first|exact HB.out|apply below_alloc|apply pw_below_drewN|apply below_drew1)|exact HB.out)) hb);clear HO_0;clear HK;clear HB;have HO_0:=n0_;have HK:=n1_;have HB:=n2_;clear n0_ n1_ n2_;(try clear hb);(try clear hb2);(try clear hk);(try clear hi);have p8:0≤(x5_1:Int):=of_decide_eq_true (by first|(with_reducible assumption)|assumption);have q8:(x5_1:Int)<((x0_1.length:Int):Int):=of_decide_eq_true (by first|(with_reducible assumption)|assumption);obtain ⟨ce8,hcl8,hM8,hcc8,hfr8⟩:=Kd.R_elem HO_0.out z124 (x5_1:Int) p8 q8;obtain rfl:=k124_openM hM8;have hx8_0:w13.cell? ⟨go6,(x5_1:Int).toNat*2,none⟩=some (.string ((rd_T124 y1155 x5_1).f0)):=hcc8 0 _ rfl;have hx8_1:w13.cell? ⟨go6,(x5_1:Int).toNat*2+1,none⟩=some (.string ((rd_T124 y1155 x5_1).f1)):=hcc8 1 _ rfl;have hf8_0:w13.frozen? ⟨go6,(x5_1:Int).toNat*2,none⟩=false:=hfr8 0;have hf8_1:w13.frozen? ⟨go6,(x5_1:Int).toNat*2+1,none⟩=false:=hfr8 1;clear hcl8 hcc8 hfr8 hM8;replace p8:=eq_true p8;replace q8:=eq_true q8;have HX14:=Aside0.mk (show Kd.R k124 124 w13 w0.heap.size (fun k_=>(P0_ k_ ∨ w.heap.size≤k_)) (.slice (some ⟨go6,0,none⟩) x0_1.length co9) y1155 from (by (with_reducible repeat (first|apply Kd.R_alloc|apply Kd.R_drewN|apply Kd.R_drew));exact HO_0.out));obtain ⟨ce14,hcl14,hM14,hcc14,hfr14⟩:=Kd.R_elem HX14.out z124 (x5_1:Int) (of_decide_eq_true (by first|(with_reducible assumption)|assumption)) (by have h_:(x5_1:Int)<((x0_1.length:Int):Int):=of_decide_eq_true (by first|(with_reducible assumption)|assumption);first|exact h_|(have e_:=(Kd.R_reads' HO_0.out).1;omega)|simpa using h_);obtain rfl:=k124_openM hM14;have HP14:=Kd.R_seg HX14.out (x5_1:Int) (of_decide_eq_true (by first|(with_reducible assumption)|assumption)) (by have h_:(x5_1:Int)<((x0_1.length:Int):Int):=of_decide_eq_true (by first|(with_reducible assumption)|assumption);first|exact h_|(have e_:=(Kd.R_reads' HO_0.out).1;omega)|simpa using h_) (seg:=[.string t1156]) (j:=1) hcl14 hcc14 (show 2≤2 from by decide) (x':=(⟨(rd_T124 y1155 x5_1).f0,t1156⟩:S124)) (k124_mkM _ _ _ (⟨(rd_T124 y1155 x5_1).f0,t1156⟩:S124) ) (fun _ hk=>hk);have hx14_1:=hcc14 1 _ rfl;(try simp only [show (k124).sz=2 from rfl,Nat.mul_one,Nat.add_zero] at hx14_1);have hf14_1:=hfr14 1;(try simp only [show (k124).sz=2 from rfl,Nat.mul_one,Nat.add_zero] at hf14_1);clear hcl14 hcc14 hfr14 hM14)|((with_reducible refine gate_store (t:=9) (p:=25) rfl ?_);refine store_event (t:=9) (p:=25) (v:=?vo_w15) (w1:=(w13.setCell ⟨go6,(x5_1:Int).toNat*2+1,none⟩ (.string t1156))) ?hg ?ho ?hn ?hr ?_;(case ho=>rfl);(case hg=>rfl);(case hn=>rfl);(case hr=>first|(go_simp;done)|(go_simp;rfl));intro w15 hw;have hg:w13.grownBy w15 (some go6):=(by rw [hw];exact HP14.2);have hp_:Kd.R k124 124 w15 w0.heap.size (fun k_=>(P0_ k_ ∨ w.heap.size≤k_)) (.slice (some ⟨go6,0,none⟩) x0_1.length co9) y1157:=(by rw [hw,Ny1157.out];exact HP14.1);clear HP14;have n0_:=Aside0.mk (hp_);have n1_:=Aside0.mk ((by rw [hw];exact below_set (HB.out) GB6.out:Below w0.heap.size w0 w15));have n2_:=Aside0.mk (Kept.of_grown (S:=(fun k_=>P0_ k_)) hg (by repeat (first|(with_reducible first|exact HK.out|apply Kept.alloc|apply Kept.drewN|apply Kept.drew)|exact HK.out)) (fun k_ e_=>(HO_0.out.1 k_ e_)));clear HO_0;clear HB;clear HK;have HO_0:=n0_;have HB:=n1_;have HK:=n2_;clear n0_ n1_ n2_;clear hg hw hp_))
     go_roundg k1
     case measure=>have:=HK1.out;omega
     case rel=>exact ⟨(y1157),(wrap64 ((wrap64 (x1_1+1))+1)),(wrap64 (x5_1+1)),(by first|rfl|(simp;done)|(simp [*];done)),(by first|rfl|(simp;done)|(simp [*];done)),H',⟨by have:=HK1.out;omega⟩,⟨by (with_reducible repeat (first|apply Kd.R_alloc|apply Kd.R_drewN|apply Kd.R_drew));exact HO_0.out⟩,⟨by repeat (first|(with_reducible first|exact HK.out|apply Kept.alloc|apply Kept.drewN|apply Kept.drew)|exact HK.out)⟩,⟨by repeat (first|(with_reducible first|exact HB.out|apply below_alloc|apply pw_below_drewN|apply below_drew1)|exact HB.out)⟩⟩
    ·rw [if_neg c5] at H
     exact absurd H (by simp)
   ·rw [if_neg c3] at H
    have c3b0:decide (x5_1<(x0_1.length:Int))=false:=decide_eq_false c3
    clear c3
    simp only [Option.some.injEq,Prod.mk.injEq] at H
    obtain ⟨rfl,rfl⟩:=H
    obtain ⟨Ao16,co16,eo16⟩:=Kd.R_slice HO_0.out
    subst eo16
    go_wp2
    go_ret
    exact ⟨by first|rfl|(simp [errW_none,errW_some]<;>rfl)|(simp [*,errW_none,errW_some]<;>rfl),by (with_reducible repeat (first|apply Kd.R_alloc|apply Kd.R_drewN|apply Kd.R_drew));exact HO_0.out,by repeat (first|(with_reducible first|exact HB.out|apply below_alloc|apply pw_below_drewN|apply below_drew1)|exact HB.out),by repeat (first|(with_reducible first|exact HK.out|apply Kept.alloc|apply Kept.drewN|apply Kept.drew)|exact HK.out)⟩
def laws_markOrder.f (k:Nat) (a0_0:ByteArray) (a0_1:ByteArray) (a0_2:Int) (a0_3:Int) (l0_4:List (S61)) (a0_5:Int) (a0_6:Int) (a0_7:Int) (a0_8:Int) (l0_9:List (S124)) (a1:Int):Option (Int × (List (S61)) × (List (S124))):=(laws_markMetricS.f k l0_4 a1).bind fun bt1159=>((laws_markNoteS.f k l0_9 bt1159.1).bind fun bt1161=>(some (bt1161.1,bt1159.2,bt1161.2)))
set_option maxHeartbeats 8000000 in
set_option maxRecDepth 100000 in
theorem laws_markOrder.calls (k:Nat) (a0_0:ByteArray) (a0_1:ByteArray) (a0_2:Int) (a0_3:Int) (P0_4_:Nat→Prop) (u9000_:Value) (l0_4:List (S61)) (a0_5:Int) (a0_6:Int) (a0_7:Int) (a0_8:Int) (P0_9_:Nat→Prop) (u9001_:Value) (l0_9:List (S124)) (a1:Int) (r1:Int) (r2:List (S61)) (r3:List (S124)) (w0 w:World) (hB:Below w0.heap.size w0 w) (ho0_4:Kd.R k61 61 w w0.heap.size P0_4_ u9000_ l0_4) (ho0_9:Kd.R k124 124 w w0.heap.size P0_9_ u9001_ l0_9) (h:laws_markOrder.f k a0_0 a0_1 a0_2 a0_3 l0_4 a0_5 a0_6 a0_7 a0_8 l0_9 a1=some (r1,r2,r3)) :
  Calls Tryz.prog 22 #[.agg #[.string a0_0,.string a0_1,.int .i64 a0_2,.int .i64 a0_3,u9000_,.int .i64 a0_5,.int .i64 a0_6,.int .i64 a0_7,.int .i64 a0_8,u9001_],.int .i64 a1] w fun e w'=>e=.returned (.int .i64 r1)∧Kd.R k61 61 w' w0.heap.size (fun k_=>((P0_4_ k_ ∨ P0_9_ k_) ∨ w.heap.size≤k_)) u9000_ r2∧Kd.R k124 124 w' w0.heap.size (fun k_=>((P0_4_ k_ ∨ P0_9_ k_) ∨ w.heap.size≤k_)) u9001_ r3∧Below w0.heap.size w0 w'∧Kept w w' (fun k_=>P0_4_ k_ ∨ P0_9_ k_):=by
 have hu50:=Tryz.underlying50
 have HO0_4:=Aside0.mk (show Kd.R k61 61 w w0.heap.size (fun k_=>((P0_4_ k_ ∨ P0_9_ k_) ∨ w.heap.size≤k_)) u9000_ l0_4 from Kd.R_mono ho0_4 (fun k_ hk=>(.inl (.inl hk))))
 have HO0_9:=Aside0.mk (show Kd.R k124 124 w w0.heap.size (fun k_=>((P0_4_ k_ ∨ P0_9_ k_) ∨ w.heap.size≤k_)) u9001_ l0_9 from Kd.R_mono ho0_9 (fun k_ hk=>(.inl (.inr hk))))
 have HK:=Aside0.mk (Kept.refl w (fun k_=>P0_4_ k_ ∨ P0_9_ k_))
 have HW0:=Aside0.mk hB.size
 have HB:=Aside0.mk hB
 clear hB
 have H:((laws_markMetricS.f k l0_4 a1).bind fun bt1159=>((laws_markNoteS.f k l0_9 bt1159.1).bind fun bt1161=>(some (bt1161.1,bt1159.2,bt1161.2))))=some (r1,r2,r3):=h
 clear h
 replace H:=Option.bind_eq_some_iff.mp H
 obtain ⟨⟨t1159,t1160⟩,A30,H⟩:=H
 replace H:((laws_markNoteS.f k l0_9 t1159).bind fun bt1161=>(some (bt1161.1,t1160,bt1161.2)))=some (r1,r2,r3):=H
 have A3:=Aside0.mk A30
 clear A30
 replace H:=Option.bind_eq_some_iff.mp H
 obtain ⟨⟨t1161,t1162⟩,A40,H⟩:=H
 replace H:(some (t1161,t1160,t1162))=some (r1,r2,r3):=H
 have A4:=Aside0.mk A40
 clear A40
 simp only [Option.some.injEq,Prod.mk.injEq] at H
 obtain ⟨rfl,rfl,rfl⟩:=H
 obtain ⟨Ao5,co5,eo5⟩:=Kd.R_slice HO0_4.out
 subst eo5
 obtain ⟨Ao6,co6,eo6⟩:=Kd.R_slice HO0_9.out
 subst eo6
 go_enter Tryz.func22,Tryz.ntmps22
 go_wp2_with (first|((with_reducible refine gate_dst (N:=2) rfl ?_);refine box_event ?hg (N:=2) ?hd (cs:=#[.string a0_0,.string a0_1,.int .i64 a0_2,.int .i64 a0_3,.slice Ao5 l0_4.length co5,.int .i64 a0_5,.int .i64 a0_6,.int .i64 a0_7,.int .i64 a0_8,.slice Ao6 l0_9.length co6]) (t:=50) ?hr ?_;(case hd=>rfl);(case hg=>rfl);(case hr=>first|(go_simp;done)|(go_simp;rfl));intro gb1158 hg w7 hbox hb;have n0_:=Aside0.mk (Kd.R_below (by (with_reducible repeat (first|apply Kd.R_alloc|apply Kd.R_drewN|apply Kd.R_drew));exact HO0_4.out) hb);have n1_:=Aside0.mk (Kd.R_below (by (with_reducible repeat (first|apply Kd.R_alloc|apply Kd.R_drewN|apply Kd.R_drew));exact HO0_9.out) hb);have n2_:=Aside0.mk (Kept.below (S:=(fun k_=>P0_4_ k_ ∨ P0_9_ k_)) (by repeat (first|(with_reducible first|exact HK.out|apply Kept.alloc|apply Kept.drewN|apply Kept.drew)|exact HK.out)) hb);have n3_:=Aside0.mk (below_step (by repeat (first|(with_reducible first|exact HB.out|apply below_alloc|apply pw_below_drewN|apply below_drew1)|exact HB.out)) hb);have n4_:=Aside0.mk (hbox);have n5_:=Aside0.mk ((by rw [hg];exact (by first|exact HK.out.1|exact (show Kept w _ (fun k_=>P0_4_ k_ ∨ P0_9_ k_) from by repeat (first|(with_reducible first|exact HK.out|apply Kept.alloc|apply Kept.drewN|apply Kept.drew)|exact HK.out)).1):w.heap.size≤gb1158));have n6_:=Aside0.mk ((by rw [hg];exact (below_size (by repeat (first|(with_reducible first|exact HB.out|apply below_alloc|apply pw_below_drewN|apply below_drew1)|exact HB.out))):w0.heap.size≤gb1158));clear HO0_4;clear HO0_9;clear HK;clear HB;have HO0_4:=n0_;have HO0_9:=n1_;have HK:=n2_;have HB:=n3_;have BK1158:=n4_;have GW1158:=n5_;have GE1158:=n6_;clear n0_ n1_ n2_ n3_ n4_ n5_ n6_;clear hb hbox hg;have hcz8_0:w7.cell? ⟨gb1158,0,none⟩=some (.string a0_0):=(blk_cell BK1158.out 0).trans rfl;have hcz8_1:w7.cell? ⟨gb1158,1,none⟩=some (.string a0_1):=(blk_cell BK1158.out 1).trans rfl;have hcz8_2:w7.cell? ⟨gb1158,2,none⟩=some (.int .i64 a0_2):=(blk_cell BK1158.out 2).trans rfl;have hcz8_3:w7.cell? ⟨gb1158,3,none⟩=some (.int .i64 a0_3):=(blk_cell BK1158.out 3).trans rfl;have hcz8_4:w7.cell? ⟨gb1158,4,none⟩=some (.slice Ao5 l0_4.length co5):=(blk_cell BK1158.out 4).trans rfl;have hcz8_5:w7.cell? ⟨gb1158,5,none⟩=some (.int .i64 a0_5):=(blk_cell BK1158.out 5).trans rfl;have hcz8_6:w7.cell? ⟨gb1158,6,none⟩=some (.int .i64 a0_6):=(blk_cell BK1158.out 6).trans rfl;have hcz8_7:w7.cell? ⟨gb1158,7,none⟩=some (.int .i64 a0_7):=(blk_cell BK1158.out 7).trans rfl;have hcz8_8:w7.cell? ⟨gb1158,8,none⟩=some (.int .i64 a0_8):=(blk_cell BK1158.out 8).trans rfl;have hcz8_9:w7.cell? ⟨gb1158,9,none⟩=some (.slice Ao6 l0_9.length co6):=(blk_cell BK1158.out 9).trans rfl;have hfz8_0:=blk_frozen BK1158.out 0;have hfz8_1:=blk_frozen BK1158.out 1;have hfz8_2:=blk_frozen BK1158.out 2;have hfz8_3:=blk_frozen BK1158.out 3;have hfz8_4:=blk_frozen BK1158.out 4;have hfz8_5:=blk_frozen BK1158.out 5;have hfz8_6:=blk_frozen BK1158.out 6;have hfz8_7:=blk_frozen BK1158.out 7;have hfz8_8:=blk_frozen BK1158.out 8;have hfz8_9:=blk_frozen BK1158.out 9)|((with_reducible refine gate_callee (f:=15) rfl ?_);refine goesL_ (some 8) rfl rfl Tryz.func15 (by kernel_rfl) rfl #[.slice Ao5 l0_4.length co5,.int .i64 a1] rfl (by (try simp only [List.map_toArray,List.map_cons,List.map_nil]);first|done|rfl|(simp only [List.length_drop,List.length_take];rfl)) ?_;(with_reducible refine (laws_markMetricS.calls k (fun k_=>some k_=(.slice Ao5 l0_4.length co5:Value).ownBlock) (.slice Ao5 l0_4.length co5) l0_4 a1 t1159 t1160 w0 _ ?side1 ?side2 A3.out).mono ?_);(case side1=>repeat (first|(with_reducible first|exact HB.out|apply below_alloc|apply pw_below_drewN|apply below_drew1|refine below_set ?_ GE1158.out)|exact HB.out));(case side2=>exact Kd.R_tight rfl HO0_4.out);rintro e w9 ⟨rfl,hy0,hb,hkp⟩;refine ⟨_,rfl,?_⟩;have n0_:=Aside0.mk (Kd.R_reok rfl hy0 (fun k_ e_=>HO0_4.out.1 k_ e_));have n1_:=Aside0.mk (Kd.R_mono (ok':=fun k_=>((P0_4_ k_ ∨ P0_9_ k_) ∨ w.heap.size≤k_)) (Kd.R_keptB ((Kd.R_apart' HO0_9.out (Kd.R_typed HO0_4.out) (by decide))) hkp (fun k_ hk_ hs_=>(hk_.2) hs_)) (fun k_ hk_=>hk_.1.1));have n2_:=Aside0.mk (blk_kept (by exact BK1158.out) hkp (fun hs_=>(fun e_=>(Kd.R_ne HO0_4.out BK1158.out (by decide)) e_) hs_));have n3_:=Aside0.mk (Kept.then_ (S:=(fun k_=>P0_4_ k_ ∨ P0_9_ k_)) (by repeat (first|(with_reducible first|exact HK.out|apply Kept.alloc|apply Kept.drewN|apply Kept.drew|refine Kept.setCell ?_ (.inr GW1158.out) _)|exact HK.out)) hkp (fun k_ hs_=>(fun e_=>(HO0_4.out.1 k_ e_.symm)) hs_));have n4_:=Aside0.mk (hb);clear HO0_4;clear HO0_9;clear BK1158;clear HK;clear HB;have HO0_4:=n0_;have HO0_9:=n1_;have BK1158:=n2_;have HK:=n3_;have HB:=n4_;clear n0_ n1_ n2_ n3_ n4_;(try clear hb);(try clear hkp);(try clear hy0);have hcz10_0:w9.cell? ⟨gb1158,0,none⟩=some (.string a0_0):=(blk_cell BK1158.out 0).trans rfl;have hcz10_1:w9.cell? ⟨gb1158,1,none⟩=some (.string a0_1):=(blk_cell BK1158.out 1).trans rfl;have hcz10_2:w9.cell? ⟨gb1158,2,none⟩=some (.int .i64 a0_2):=(blk_cell BK1158.out 2).trans rfl;have hcz10_3:w9.cell? ⟨gb1158,3,none⟩=some (.int .i64 a0_3):=(blk_cell BK1158.out 3).trans rfl;have hcz10_4:w9.cell? ⟨gb1158,4,none⟩=some (.slice Ao5 l0_4.length co5):=(blk_cell BK1158.out 4).trans rfl;have hcz10_5:w9.cell? ⟨gb1158,5,none⟩=some (.int .i64 a0_5):=(blk_cell BK1158.out 5).trans rfl;have hcz10_6:w9.cell? ⟨gb1158,6,none⟩=some (.int .i64 a0_6):=(blk_cell BK1158.out 6).trans rfl;have hcz10_7:w9.cell? ⟨gb1158,7,none⟩=some (.int .i64 a0_7):=(blk_cell BK1158.out 7).trans rfl;have hcz10_8:w9.cell? ⟨gb1158,8,none⟩=some (.int .i64 a0_8):=(blk_cell BK1158.out 8).trans rfl;have hcz10_9:w9.cell? ⟨gb1158,9,none⟩=some (.slice Ao6 l0_9.length co6):=(blk_cell BK1158.out 9).trans rfl;have hfz10_0:=blk_frozen BK1158.out 0;have hfz10_1:=blk_frozen BK1158.out 1;have hfz10_2:=blk_frozen BK1158.out 2;have hfz10_3:=blk_frozen BK1158.out 3;have hfz10_4:=blk_frozen BK1158.out 4;have hfz10_5:=blk_frozen BK1158.out 5;have hfz10_6:=blk_frozen BK1158.out 6;have hfz10_7:=blk_frozen BK1158.out 7;have hfz10_8:=blk_frozen BK1158.out 8;have hfz10_9:=blk_frozen BK1158.out 9)|((with_reducible refine gate_callee (f:=70) rfl ?_);refine goesL_ (some 12) rfl rfl Tryz.func70 (by kernel_rfl) rfl #[.slice Ao6 l0_9.length co6,.int .i64 t1159] rfl (by (try simp only [List.map_toArray,List.map_cons,List.map_nil]);first|done|rfl|(simp only [List.length_drop,List.length_take];rfl)) ?_;(with_reducible refine (laws_markNoteS.calls k (fun k_=>some k_=(.slice Ao6 l0_9.length co6:Value).ownBlock) (.slice Ao6 l0_9.length co6) l0_9 t1159 t1161 t1162 w0 _ ?side1 ?side2 A4.out).mono ?_);(case side1=>repeat (first|(with_reducible first|exact HB.out|apply below_alloc|apply pw_below_drewN|apply below_drew1|refine below_set ?_ GE1158.out)|exact HB.out));(case side2=>exact Kd.R_tight rfl HO0_9.out);rintro e w11 ⟨rfl,hy0,hb,hkp⟩;refine ⟨_,rfl,?_⟩;have n0_:=Aside0.mk (Kd.R_mono (ok':=fun k_=>((P0_4_ k_ ∨ P0_9_ k_) ∨ w.heap.size≤k_)) (Kd.R_keptB ((Kd.R_apart' HO0_4.out (Kd.R_typed HO0_9.out) (by decide))) hkp (fun k_ hk_ hs_=>(hk_.2) hs_)) (fun k_ hk_=>hk_.1.1));have n1_:=Aside0.mk (Kd.R_reok rfl hy0 (fun k_ e_=>HO0_9.out.1 k_ e_));have n2_:=Aside0.mk (blk_kept (by exact BK1158.out) hkp (fun hs_=>(fun e_=>(Kd.R_ne HO0_9.out BK1158.out (by decide)) e_) hs_));have n3_:=Aside0.mk (Kept.then_ (S:=(fun k_=>P0_4_ k_ ∨ P0_9_ k_)) (by repeat (first|(with_reducible first|exact HK.out|apply Kept.alloc|apply Kept.drewN|apply Kept.drew|refine Kept.setCell ?_ (.inr GW1158.out) _)|exact HK.out)) hkp (fun k_ hs_=>(fun e_=>(HO0_9.out.1 k_ e_.symm)) hs_));have n4_:=Aside0.mk (hb);clear HO0_4;clear HO0_9;clear BK1158;clear HK;clear HB;have HO0_4:=n0_;have HO0_9:=n1_;have BK1158:=n2_;have HK:=n3_;have HB:=n4_;clear n0_ n1_ n2_ n3_ n4_;(try clear hb);(try clear hkp);(try clear hy0)))
 go_ret
 exact ⟨by first|rfl|(simp [errW_none,errW_some]<;>rfl)|(simp [*,errW_none,errW_some]<;>rfl),by (with_reducible repeat (first|apply Kd.R_alloc|apply Kd.R_drewN|apply Kd.R_drew));exact HO0_4.out,by (with_reducible repeat (first|apply Kd.R_alloc|apply Kd.R_drewN|apply Kd.R_drew));exact HO0_9.out,by repeat (first|(with_reducible first|exact HB.out|apply below_alloc|apply pw_below_drewN|apply below_drew1|refine below_set ?_ GE1158.out)|exact HB.out),by repeat (first|(with_reducible first|exact HK.out|apply Kept.alloc|apply Kept.drewN|apply Kept.drew|refine Kept.setCell ?_ (.inr GW1158.out) _)|exact HK.out)⟩
end
end Go.Proofs.YtdlhidjphaaklaaGreat.P
end
section
namespace Go.Proofs.YtdlhidjphaaklaaGreat.M
open Go.RowKit Go.Proofs.YtdlhidjphaaklaaGreat.P Go.Proofs.YtdlhidjphaaklaaGreatW.PrintWords
theorem getD_at {α:Type} (xs:List α) (z:α) (i:Nat) (h:i<xs.length):xs.getD ((i:Int).toNat) z=xs[i]:=by
  rw [Int.toNat_natCast,List.getD_eq_getElem?_getD,List.getElem?_eq_getElem h]; rfl
def totMetric (m:S113):Nat:=m.f0.size
def toM (m:S113):S61:=⟨m.f0,m.f1,m.f2⟩
theorem szMetric_eq (m:S113) (hm:m.f0.size≤maxLen) (left:Int) (h0:0≤left) (h1:left≤1048576):laws_szMetric.f m.f0 m.f1 m.f2 left=some (szLeft (totMetric m) left):=by
  unfold maxLen at hm
  unfold laws_szMetric.f szLeft totMetric
  rw [w64 (by omega) (by omega)]
  by_cases h:left - (m.f0.size:Int)<0
  · rw [if_pos h,if_neg (by omega)]
  · rw [if_neg h,if_pos (by omega)]
theorem szMetricS_eq (l:List S113) (hl:l.length≤maxLen) (hm:∀ m ∈ l,m.f0.size≤maxLen) (left:Int) (h0:0≤left) (h1:left≤1048576) (k:Nat) (hk:l.length<k) :
    laws_szMetricS.f k l left=some (szLeft (l.length + (l.map totMetric).sum) left):=by
  unfold maxLen at hl
  unfold laws_szMetricS.f
  rw [w64 (by omega) (by omega)]
  by_cases h:left - (l.length:Int)<0
  · rw [if_pos h]
    unfold szLeft
    rw [if_neg (by omega)]
  · rw [if_neg h]
    have e := sz_loop (g := fun k left i => laws_szMetricS.l0 k l left i) (xs := l) (K := 0) totMetric (fun k left _ => by simp only [laws_szMetricS.l0]; rw [if_neg (by omega)])
      (fun k left i hi _ hl0 hl1=>by
        simp only [laws_szMetricS.l0]
        have er:rd_T113 l (i:Int)=l[i]:=getD_at l _ i hi
        rw [if_pos (by omega),if_pos (by omega),er,szMetric_eq _ (hm _ (List.getElem_mem hi)) left hl0 hl1,Option.bind_some,wsucc (by omega)])
      l.length 0 k (left - l.length) (by omega) (by omega) (by omega) (by omega)
    have e0:((0:Nat):Int)=0:=rfl
    rw [e0,List.drop_zero] at e
    rw [e]
    unfold szLeft
    by_cases h2:(((l.map totMetric).sum:Nat):Int)≤left - l.length
    · rw [if_pos h2,if_pos (by omega)]; congr 1; omega
    · rw [if_neg h2,if_neg (by omega)]
theorem toMetricS_eq (l:List S113) (hl:l.length≤1048576) (k:Nat) (hk:l.length<k):laws_toMetricS.f k l=some (l.map toM):=by
  unfold laws_toMetricS.f
  rw [if_pos (by omega),Int.toNat_natCast,if_pos (by omega)]
  refine fill_all (g:=fun k acc i=>laws_toMetricS.l0 k l acc i) (K:=0) toM _ (fun k acc _=>?_) (fun k acc i hi _ ha=>?_) k (by omega)
  · simp only [laws_toMetricS.l0]; rw [if_neg (by omega)]
  · simp only [laws_toMetricS.l0, laws_toMetric.f, Option.bind_some]
    have er:rd_T113 l (i:Int)=l[i]:=getD_at l _ i hi
    rw [if_pos (by omega),if_pos (by omega),if_pos (by omega),er,wsucc (by omega),Int.toNat_natCast]
    rfl
def eqM (a b:S61):Bool:=decide (a.f0=b.f0) && decide (a.f1=b.f1) && decide (a.f2=b.f2)
theorem eqMetric_eq (a b:S61):laws_eqMetric.f a.f0 a.f1 a.f2 b.f0 b.f1 b.f2=some (eqM a b):=by
  unfold laws_eqMetric.f eqM
  by_cases h:a.f0=b.f0 <;> by_cases h1:a.f1=b.f1 <;> by_cases h2:a.f2=b.f2 <;> simp [tlb,h,h1,h2]
theorem eqM_self (a:S61):eqM a a=true:=by unfold eqM; simp
theorem eqMetricS_self (l:List S61) (hl:l.length≤1048576) (k:Nat) (hk:l.length<k):laws_eqMetricS.f k l l=some true:=by
  unfold laws_eqMetricS.f
  rw [if_pos rfl]
  have e := scanK (g := fun k i => laws_eqMetricS.l0 k l l i) (n := l.length) (K := 0) (P := fun _ => true) (e := true) (fun k _ => by simp only [laws_eqMetricS.l0]; rw [if_neg (by omega)])
    (fun k i _ hi=>by
      simp only [laws_eqMetricS.l0]
      rw [if_pos (by omega),if_pos (by omega),if_pos (by omega),eqMetric_eq,eqM_self,Option.bind_some,wsucc (by omega),if_pos rfl,if_pos trivial]) l.length 0 k (by omega) (by omega)
  have e0:((0:Nat):Int)=0:=rfl
  rw [e0] at e
  rw [e]
  simp
def totNote (m:S116):Nat:=m.f0.size + m.f1.size
def toN (m:S116):S124:=⟨m.f0,m.f1⟩
theorem szNote_eq (m:S116) (hm:m.f0.size≤maxLen) (hm2:m.f1.size≤maxLen) (left:Int) (h0:0≤left) (h1:left≤1048576):laws_szNote.f m.f0 m.f1 left=some (szLeft (totNote m) left):=by
  unfold maxLen at hm hm2
  unfold laws_szNote.f szLeft totNote
  rw [w64 (by omega) (by omega)]
  by_cases h:left - (m.f0.size:Int)<0
  · rw [if_pos h,if_neg (by omega)]
  · rw [if_neg h, w64 (by omega) (by omega)]
    by_cases h2:left - (m.f0.size:Int) - (m.f1.size:Int)<0
    · rw [if_pos h2,if_neg (by omega)]
    · rw [if_neg h2,if_pos (by omega)]; congr 1; omega
theorem szNoteS_eq (l:List S116) (hl:l.length≤maxLen) (hm:∀ m ∈ l,m.f0.size≤maxLen∧m.f1.size≤maxLen) (left:Int) (h0:0≤left) (h1:left≤1048576) (k:Nat) (hk:l.length<k) :
    laws_szNoteS.f k l left=some (szLeft (l.length + (l.map totNote).sum) left):=by
  unfold maxLen at hl
  unfold laws_szNoteS.f
  rw [w64 (by omega) (by omega)]
  by_cases h:left - (l.length:Int)<0
  · rw [if_pos h]
    unfold szLeft
    rw [if_neg (by omega)]
  · rw [if_neg h]
    have e := sz_loop (g := fun k left i => laws_szNoteS.l0 k l left i) (xs := l) (K := 0) totNote (fun k left _ => by simp only [laws_szNoteS.l0]; rw [if_neg (by omega)])
      (fun k left i hi _ hl0 hl1=>by
        simp only [laws_szNoteS.l0]
        have er:rd_T116 l (i:Int)=l[i]:=getD_at l _ i hi
        rw [if_pos (by omega),if_pos (by omega),er,szNote_eq _ (hm _ (List.getElem_mem hi)).1 (hm _ (List.getElem_mem hi)).2 left hl0 hl1,Option.bind_some,wsucc (by omega)])
      l.length 0 k (left - l.length) (by omega) (by omega) (by omega) (by omega)
    have e0:((0:Nat):Int)=0:=rfl
    rw [e0,List.drop_zero] at e
    rw [e]
    unfold szLeft
    by_cases h2:(((l.map totNote).sum:Nat):Int)≤left - l.length
    · rw [if_pos h2,if_pos (by omega)]; congr 1; omega
    · rw [if_neg h2,if_neg (by omega)]
theorem toNoteS_eq (l:List S116) (hl:l.length≤1048576) (k:Nat) (hk:l.length<k):laws_toNoteS.f k l=some (l.map toN):=by
  unfold laws_toNoteS.f
  rw [if_pos (by omega),Int.toNat_natCast,if_pos (by omega)]
  refine fill_all (g:=fun k acc i=>laws_toNoteS.l0 k l acc i) (K:=0) toN _ (fun k acc _=>?_) (fun k acc i hi _ ha=>?_) k (by omega)
  · simp only [laws_toNoteS.l0]; rw [if_neg (by omega)]
  · simp only [laws_toNoteS.l0, laws_toNote.f, Option.bind_some]
    have er:rd_T116 l (i:Int)=l[i]:=getD_at l _ i hi
    rw [if_pos (by omega),if_pos (by omega),if_pos (by omega),er,wsucc (by omega),Int.toNat_natCast]
    rfl
def eqN (a b:S124):Bool:=decide (a.f0=b.f0) && decide (a.f1=b.f1)
theorem eqNote_eq (a b:S124):laws_eqNote.f a.f0 a.f1 b.f0 b.f1=some (eqN a b):=by
  unfold laws_eqNote.f eqN
  by_cases h:a.f0=b.f0 <;> by_cases h1:a.f1=b.f1 <;> simp [tlb,h,h1]
theorem eqN_self (a:S124):eqN a a=true:=by unfold eqN; simp
theorem eqNoteS_self (l:List S124) (hl:l.length≤1048576) (k:Nat) (hk:l.length<k):laws_eqNoteS.f k l l=some true:=by
  unfold laws_eqNoteS.f
  rw [if_pos rfl]
  have e := scanK (g := fun k i => laws_eqNoteS.l0 k l l i) (n := l.length) (K := 0) (P := fun _ => true) (e := true) (fun k _ => by simp only [laws_eqNoteS.l0]; rw [if_neg (by omega)])
    (fun k i _ hi=>by
      simp only [laws_eqNoteS.l0]
      rw [if_pos (by omega),if_pos (by omega),if_pos (by omega),eqNote_eq,eqN_self,Option.bind_some,wsucc (by omega),if_pos rfl,if_pos trivial]) l.length 0 k (by omega) (by omega)
  have e0:((0:Nat):Int)=0:=rfl
  rw [e0] at e
  rw [e]
  simp
def totOrder (o:S44):Nat:=o.f0.size + o.f1.size + (o.f4.length + (o.f4.map totMetric).sum) + (o.f6.length + (o.f6.map totNote).sum)
structure OrderIn (o : S44) : Prop where
  n:o.f0.size≤maxLen
  t:o.f1.size≤maxLen
  ml:o.f4.length≤maxLen
  m:∀ x ∈ o.f4,x.f0.size≤maxLen
  nl:o.f6.length≤maxLen
  no:∀ x ∈ o.f6,x.f0.size≤maxLen∧x.f1.size≤maxLen
theorem szOrder_eq (o:S44) (g:OrderIn o) (left:Int) (h0:0≤left) (h1:left≤1048576) (k:Nat) (hk:o.f4.length<k) (hk2:o.f6.length<k) :
    laws_szOrder.f k o.f0 o.f1 o.f2 o.f3 o.f4 o.f5.f0 o.f5.f1 o.f5.f2 o.f5.f3 o.f6 left=some (szLeft (totOrder o) left):=by
  have gn:=g.n; have gt:=g.t
  unfold maxLen at gn gt
  unfold laws_szOrder.f
  rw [w64 (by omega) (by omega)]
  have key:∀ n:Nat,(n:Int)≤totOrder o→left - (n:Int)<0→szLeft (totOrder o) left = -1:=by
    intro n h h2; unfold szLeft; rw [if_neg (by omega)]
  by_cases h:left - (o.f0.size:Int)<0
  · rw [if_pos h,key o.f0.size (by unfold totOrder; omega) h]
  · rw [if_neg h, w64 (by omega) (by omega)]
    by_cases h2:left - (o.f0.size:Int) - (o.f1.size:Int)<0
    · rw [if_pos h2,key (o.f0.size + o.f1.size) (by unfold totOrder; omega) (by omega)]
    · rw [if_neg h2, szMetricS_eq _ g.ml g.m _ (by omega) (by omega) _ hk, Option.bind_some]
      by_cases h3:szLeft (o.f4.length + (o.f4.map totMetric).sum) (left - o.f0.size - o.f1.size)<0
      · rw [if_pos h3]
        unfold szLeft at h3 ⊢
        unfold totOrder
        split at h3
        · omega
        · rw [if_neg (by omega)]
      · have h4 := szLeft_neg h3
        have e:szLeft (o.f4.length + (o.f4.map totMetric).sum) (left - o.f0.size - o.f1.size)=left - o.f0.size - o.f1.size - ((o.f4.length + (o.f4.map totMetric).sum:Nat):Int):=if_pos h4
        rw [if_neg h3,e,szNoteS_eq _ g.nl g.no _ (by omega) (by omega) _ hk2,Option.bind_some]
        unfold szLeft totOrder
        by_cases h5:((o.f6.length + (o.f6.map totNote).sum:Nat):Int)≤left - o.f0.size - o.f1.size - ((o.f4.length + (o.f4.map totMetric).sum:Nat):Int)
        · rw [if_pos h5,if_neg (by omega),if_pos (by omega)]; congr 1; omega
        · rw [if_neg h5,if_pos (by omega),if_neg (by omega)]
theorem toOrder_eq (o:S44) (h1:o.f4.length≤1048576) (h2:o.f6.length≤1048576) (k:Nat) (hk:o.f4.length<k) (hk2:o.f6.length<k) :
    laws_toOrder.f k o.f0 o.f1 o.f2 o.f3 o.f4 o.f5.f0 o.f5.f1 o.f5.f2 o.f5.f3 o.f6=some (o.f0,o.f1,o.f2,o.f3,o.f4.map toM,o.f5.f0,o.f5.f1,o.f5.f2,o.f5.f3,o.f6.map toN):=by
  unfold laws_toOrder.f laws_toPace.f
  rw [toMetricS_eq _ h1 _ hk,Option.bind_some,Option.bind_some,toNoteS_eq _ h2 _ hk2,Option.bind_some]
theorem eqOrder_self (n t:ByteArray) (lo hi:Int) (ms:List S61) (p0 p1 p2 p3:Int) (ns:List S124) (h1:ms.length≤1048576) (h2:ns.length≤1048576) (k:Nat) (hk:ms.length<k) (hk2:ns.length<k) :
    laws_eqOrder.f k n t lo hi ms p0 p1 p2 p3 ns n t lo hi ms p0 p1 p2 p3 ns=some true:=by
  unfold laws_eqOrder.f laws_eqPace.f
  simp [eqMetricS_self _ h1 _ hk,eqNoteS_self _ h2 _ hk2]
theorem isLetter_eq (c:Int):impl_isLetter.f c=some (lowB c || upB c):=by
  unfold impl_isLetter.f lowB upB
  by_cases h1:c ≥ 97 <;> by_cases h2:c≤122 <;> by_cases h3:c ≥ 65 <;> by_cases h4:c≤90 <;> (try (exfalso; omega)) <;> simp [h1,h2,h3,h4] <;> omega
theorem l5Letter_eq (c:Int):spec_l5Letter.f c=some (lowB c || upB c):=isLetter_eq c
theorem idx_plain:∀ c:Fin 256,decide (Lib.indexByte ([95,46,47,45]:List UInt8) (UInt8.ofNat c.val)<0)=!(decide (c.val=95) || decide (c.val=46) || decide (c.val=47) || decide (c.val=45)):=by decide +kernel
theorem idx_plain' (s:ByteArray) (i:Int):(Lib.indexByte (⟨#[95,46,47,45]⟩:ByteArray).data.toList (bt s i).toNat.toUInt8<0) ↔ ¬ (bt s i=95 ∨ bt s i=46 ∨ bt s i=47 ∨ bt s i=45):=by
  have hb:=bt_range s i
  have h:=idx_plain ⟨(bt s i).toNat,by omega⟩
  have e:decide (Lib.indexByte (⟨#[95,46,47,45]⟩:ByteArray).data.toList (bt s i).toNat.toUInt8<0)=decide (Lib.indexByte ([95,46,47,45]:List UInt8) (UInt8.ofNat (bt s i).toNat)<0):=rfl
  constructor
  · intro h1
    have h2:=decide_eq_true h1
    rw [e,h] at h2
    simp only [Bool.not_eq_true',Bool.or_eq_false_iff,decide_eq_false_iff_not] at h2
    omega
  · intro h1
    refine of_decide_eq_true ?_
    rw [e,h]
    simp only [Bool.not_eq_true',Bool.or_eq_false_iff,decide_eq_false_iff_not]
    omega
theorem plain_tail (s:ByteArray):((some (inB (s.size:Int) 1 60)).bind fun t=>(if t=true then (if s.toList=([110,117,108,108]:List UInt8) then (some false) else (if s.toList=([116,114,117,101]:List UInt8) then (some false) else (some (s.toList != ([102,97,108,115,101]:List UInt8))))) else (some false)))=some (plainEnd s):=by
  rw [Option.bind_some]
  unfold plainEnd
  cases inB s.size 1 60
  · rfl
  · rw [if_pos rfl, Bool.true_and]
    by_cases h1:s.toList=([110,117,108,108]:List UInt8)
    · rw [if_pos h1]; simp [h1]
    · rw [if_neg h1]
      by_cases h2:s.toList=([116,114,117,101]:List UInt8)
      · rw [if_pos h2]; simp [h2]
      · rw [if_neg h2]
        by_cases h3:s.toList=([102,97,108,115,101]:List UInt8) <;> simp [h1,h2,h3]
theorem plain_end_spec (s:ByteArray) (k:Nat):spec_PlainOk.l0 (k + 1) s (s.size:Int)=some (plainEnd s):=by
  simp only [spec_PlainOk.l0]
  rw [if_neg (by omega),l1In_eq]
  exact plain_tail s
theorem plain_end_impl (s:ByteArray) (k:Nat):impl_PlainOk.l0 (k + 1) s (s.size:Int) (s.size:Int)=some (plainEnd s):=by
  simp only [impl_PlainOk.l0]
  rw [if_neg (by omega),from_eq]
  exact plain_tail s
theorem spec_plainOk (s:ByteArray) (hs:s.size≤140737488351232) (k:Nat) (hk:s.size<k):spec_PlainOk.f k s=some (plainOk s):=by
  unfold spec_PlainOk.f plainOk
  refine scan0 (g:=fun k i=>spec_PlainOk.l0 k s i) (fun k=>plain_end_spec s k) (fun k i hi=>?_) k hk
  simp only [spec_PlainOk.l0,l5Letter_eq,Option.bind_some]
  rw [if_pos (by omega),if_pos (by omega),wsucc (by omega)]
  generalize spec_PlainOk.l0 k s ((i + 1:Nat):Int)=X
  by_cases hb:plainB s i=true
  · rw [if_pos hb]
    simp only [plainB,lowB,upB,digB,Bool.or_eq_true,Bool.and_eq_true,decide_eq_true_eq] at hb ⊢
    repeat' split
    all_goals first | rfl | (exfalso; omega)
  · rw [if_neg hb]
    simp only [plainB,lowB,upB,digB,Bool.or_eq_true,Bool.and_eq_true,decide_eq_true_eq] at hb ⊢
    repeat' split
    all_goals first | rfl | (exfalso; omega)
theorem impl_plainOk (s:ByteArray) (hs:s.size≤140737488351232) (k:Nat) (hk:s.size<k):impl_PlainOk.f k s=some (plainOk s):=by
  unfold impl_PlainOk.f plainOk
  refine scan0 (g:=fun k i=>impl_PlainOk.l0 k s (s.size:Int) i) (fun k=>plain_end_impl s k) (fun k i hi=>?_) k hk
  have hx:=idx_plain' s i
  simp only [impl_PlainOk.l0,isLetter_eq,isDigit_eq,strings_IndexByte.f,Option.bind_some]
  rw [if_pos (by omega),if_pos (by omega),if_pos (by omega),wsucc (by omega)]
  generalize impl_PlainOk.l0 k s (s.size:Int) ((i + 1:Nat):Int)=X
  simp only [hx]
  by_cases hb:plainB s i=true
  · rw [if_pos hb]
    simp only [plainB,lowB,upB,digB,Bool.or_eq_true,Bool.and_eq_true,decide_eq_true_eq] at hb ⊢
    repeat' split
    all_goals first | rfl | (exfalso; omega)
  · rw [if_neg hb]
    simp only [plainB,lowB,upB,digB,Bool.or_eq_true,Bool.and_eq_true,decide_eq_true_eq] at hb ⊢
    repeat' split
    all_goals first | rfl | (exfalso; omega)
def ours (s:ByteArray):Bool:=if (s.size:Int) ≥ 5 then (s.extract 0 5).toList == ([113,117,97,121,47]:List UInt8) else false
theorem l6Ours_eq (s:ByteArray):spec_l6Ours.f s=some (ours s):=by
  unfold spec_l6Ours.f ours
  by_cases h:(s.size:Int) ≥ 5
  · rw [if_pos h,if_pos h,if_pos (by decide),if_pos (by omega)]
  · rw [if_neg h,if_neg h]
theorem quay_prefix (s:ByteArray):strings_HasPrefix.f s (⟨#[113,117,97,121,47]⟩:ByteArray)=some (ours s):=by
  unfold strings_HasPrefix.f stringslite_HasPrefix.f ours
  have e:((⟨#[113,117,97,121,47]⟩:ByteArray).size:Int)=5:=rfl
  have e2:(⟨#[113,117,97,121,47]⟩:ByteArray).toList=([113,117,97,121,47]:List UInt8):=by rw [Lib.toList_data]
  rw [e,e2]
  by_cases h:(s.size:Int) ≥ 5
  · rw [if_pos h,if_pos h,if_pos (by decide),if_pos (by omega)]; rfl
  · rw [if_neg h,if_neg h]; rfl
def metricOk (m:S61):Bool:=nameOk m.f0 && (inB m.f1 1 3 && inB m.f2 1 1000000)
theorem spec_metricOk (m:S61) (hs:m.f0.size≤140737488351232) (k:Nat) (hk:m.f0.size<k):spec_MetricOk.f k m.f0 m.f1 m.f2=some (metricOk m):=by
  unfold spec_MetricOk.f metricOk
  rw [spec_nameOk _ hs k hk,l1In_eq,l1In_eq]
  cases nameOk m.f0 <;> cases inB m.f1 1 3 <;> simp
theorem impl_metricOk (m:S61) (hs:m.f0.size≤140737488351232) (k:Nat) (hk:m.f0.size<k):impl_MetricOk.f k m.f0 m.f1 m.f2=some (metricOk m):=by
  unfold impl_MetricOk.f metricOk
  rw [impl_nameOk _ hs k hk,from_eq,from_eq]
  cases nameOk m.f0 <;> cases inB m.f1 1 3 <;> simp
def paceOk (a b c d:Int):Bool:=inB a 0 1000 && (inB b 0 1000 && (inB c 0 3600 && inB d 0 3600))
theorem spec_paceOk (a b c d:Int):spec_PaceOk.f a b c d=some (paceOk a b c d):=by
  simp only [spec_PaceOk.f,l1In_eq,Option.bind_some,paceOk]
  cases inB a 0 1000 <;> cases inB b 0 1000 <;> cases inB c 0 3600 <;> cases inB d 0 3600 <;> simp
theorem impl_paceOk (a b c d:Int):impl_PaceOk.f a b c d=some (paceOk a b c d):=by
  simp only [impl_PaceOk.f,impl_isMany.f,from_eq,Option.bind_some,paceOk]
  cases inB a 0 1000 <;> cases inB b 0 1000 <;> cases inB c 0 3600 <;> cases inB d 0 3600 <;> simp
def mStep (ms:List S61) (i:Nat):Bool:=metricOk (rd_T61 ms i) && (decide (i=0) || Op.bytesLess ((rd_T61 ms (wrap64 ((i:Int) - 1))).f0.toList) ((rd_T61 ms i).f0.toList))
def nStep (ns:List S124) (i:Nat):Bool:=plainOk (rd_T124 ns i).f0 && (!ours (rd_T124 ns i).f0 && (textOk (rd_T124 ns i).f1 && (!decide (((rd_T124 ns i).f1.size:Int) > 40) && (decide (i=0) || Op.bytesLess ((rd_T124 ns (wrap64 ((i:Int) - 1))).f0.toList) ((rd_T124 ns i).f0.toList)))))
def metricsOk (ms:List S61):Bool:=(List.range' 0 ms.length).all (mStep ms) && decide ((ms.length:Int)≤4)
def notesOk (ns:List S124):Bool:=(List.range' 0 ns.length).all (nStep ns) && decide ((ns.length:Int)≤4)
theorem spec_metrics (ms:List S61) (hl:ms.length≤1048576) (hs:∀ m ∈ ms,m.f0.size≤1048576) (k:Nat) (hk:ms.length + 1048577<k):spec_l6Metrics.f k ms=some (metricsOk ms):=by
  unfold spec_l6Metrics.f metricsOk
  have e := scanK (g := fun k i => spec_l6Metrics.l0 k ms i) (n := ms.length) (K := 1048577) (P := mStep ms) (e := decide ((ms.length : Int) ≤ 4)) (fun k _ => by simp only [spec_l6Metrics.l0]; rw [if_neg (by omega)])
    (fun k i hk hi=>by
      have er:rd_T61 ms (i:Int)=ms[i]:=getD_at ms _ i hi
      simp only [spec_l6Metrics.l0]
      rw [if_pos (by omega),if_pos (by omega),spec_metricOk _ (by rw [er]; have:=hs _ (List.getElem_mem hi); omega) k (by rw [er]; have:=hs _ (List.getElem_mem hi); omega),Option.bind_some,wsucc (by omega)]
      unfold mStep
      cases metricOk (rd_T61 ms i)
      · simp
      · rcases Nat.eq_zero_or_pos i with rfl | h0
        · simp
        · rw [if_pos rfl,if_pos (by omega),if_pos (by rw [w64 (by omega) (by omega)]; omega),if_pos (by rw [w64 (by omega) (by omega)]; omega),decide_eq_false (by omega),Bool.true_and,Bool.false_or]) ms.length 0 k (by omega) (by omega)
  have e0:((0:Nat):Int)=0:=rfl
  rw [e0] at e
  rw [e]
theorem spec_notes (ns:List S124) (hl:ns.length≤1048576) (hs:∀ m ∈ ns,m.f0.size≤1048576∧m.f1.size≤1048576) (k:Nat) (hk:ns.length + 1048577<k):spec_l6Notes.f k ns=some (notesOk ns):=by
  unfold spec_l6Notes.f notesOk
  have e := scanK (g := fun k i => spec_l6Notes.l0 k ns i) (n := ns.length) (K := 1048577) (P := nStep ns) (e := decide ((ns.length : Int) ≤ 4)) (fun k _ => by simp only [spec_l6Notes.l0]; rw [if_neg (by omega)])
    (fun k i hk hi=>by
      have er:rd_T124 ns (i:Int)=ns[i]:=getD_at ns _ i hi
      have h1:=hs _ (List.getElem_mem hi)
      simp only [spec_l6Notes.l0]
      rw [if_pos (by omega),if_pos (by omega),spec_plainOk _ (by rw [er]; omega) k (by rw [er]; omega),Option.bind_some,l6Ours_eq,Option.bind_some,spec_textOk _ (by rw [er]; omega) k (by rw [er]; omega),Option.bind_some,wsucc (by omega)]
      unfold nStep
      cases plainOk (rd_T124 ns i).f0
      · simp
      cases ours (rd_T124 ns i).f0
      · cases textOk (rd_T124 ns i).f1
        · simp
        · by_cases h40 : ((rd_T124 ns i).f1.size : Int) > 40
          · simp [h40]
          · rcases Nat.eq_zero_or_pos i with rfl | h0
            · rw [if_pos rfl, if_neg (by simp), if_pos rfl, if_neg h40, if_neg (by omega), decide_eq_false h40]
              simp
            · rw [if_pos rfl, if_neg (by simp), if_pos rfl, if_neg h40, if_pos (by omega), if_pos (by rw [w64 (by omega) (by omega)]; omega), if_pos (by rw [w64 (by omega) (by omega)]; omega), decide_eq_false (by omega : ¬ i = 0), decide_eq_false h40]
              simp
      · simp) ns.length 0 k (by omega) (by omega)
  have e0:((0:Nat):Int)=0:=rfl
  rw [e0] at e
  rw [e]
theorem impl_notes (ns:List S124) (hl:ns.length≤1048576) (hs:∀ m ∈ ns,m.f0.size≤1048576∧m.f1.size≤1048576) (k:Nat) (hk:ns.length + 1048577<k):impl_notesOk.f k ns=some (notesOk ns):=by
  unfold impl_notesOk.f notesOk
  have e := scanK (g := fun k i => impl_notesOk.l0 k ns ns (ns.length : Int) i) (n := ns.length) (K := 1048577) (P := nStep ns) (e := decide ((ns.length : Int) ≤ 4)) (fun k _ => by simp only [impl_notesOk.l0]; rw [if_neg (by omega)])
    (fun k i hk hi=>by
      have er:rd_T124 ns (i:Int)=ns[i]:=getD_at ns _ i hi
      have h1:=hs _ (List.getElem_mem hi)
      simp only [impl_notesOk.l0]
      rw [if_pos (by omega),if_pos (by omega),if_pos (by omega),impl_plainOk _ (by rw [er]; omega) k (by rw [er]; omega),Option.bind_some,quay_prefix,Option.bind_some,impl_textOk _ (by rw [er]; omega) k (by rw [er]; omega),Option.bind_some,wsucc (by omega)]
      unfold nStep
      cases plainOk (rd_T124 ns i).f0
      · simp
      cases ours (rd_T124 ns i).f0
      · cases textOk (rd_T124 ns i).f1
        · simp
        · by_cases h40 : ((rd_T124 ns i).f1.size : Int) > 40
          · simp [h40]
          · rcases Nat.eq_zero_or_pos i with rfl | h0
            · rw [if_pos rfl, if_neg (by simp), if_pos rfl, if_neg h40, if_neg (by omega), decide_eq_false h40]
              simp
            · rw [if_pos rfl, if_neg (by simp), if_pos rfl, if_neg h40, if_pos (by omega), if_pos (by rw [w64 (by omega) (by omega)]; omega), if_pos (by rw [w64 (by omega) (by omega)]; omega), decide_eq_false (by omega : ¬ i = 0), decide_eq_false h40]
              simp
      · simp) ns.length 0 k (by omega) (by omega)
  have e0:((0:Nat):Int)=0:=rfl
  rw [e0] at e
  rw [e]
def orderOk (n t:ByteArray) (lo hi:Int) (ms:List S61) (p0 p1 p2 p3:Int) (ns:List S124):Bool:=nameOk n && (nameOk t && (inB lo 1 hi && (decide (hi≤1000) && (metricsOk ms && (paceOk p0 p1 p2 p3 && notesOk ns)))))
theorem spec_orderOk (n t : ByteArray) (lo hi : Int) (ms : List S61) (p0 p1 p2 p3 : Int) (ns : List S124) (h1 : n.size ≤ 1048576) (h2 : t.size ≤ 1048576) (h3 : ms.length ≤ 1048576) (h4 : ∀ m ∈ ms, m.f0.size ≤ 1048576)
    (h5:ns.length≤1048576) (h6:∀ m ∈ ns,m.f0.size≤1048576∧m.f1.size≤1048576) (k:Nat) (hk:4194304<k):spec_OrderOk.f k n t lo hi ms p0 p1 p2 p3 ns=some (orderOk n t lo hi ms p0 p1 p2 p3 ns):=by
  unfold spec_OrderOk.f orderOk
  simp only [spec_nameOk n (by omega) k (by omega),spec_nameOk t (by omega) k (by omega),l1In_eq,spec_metrics ms h3 h4 k (by omega),spec_paceOk,spec_notes ns h5 h6 k (by omega),Option.bind_some]
  cases nameOk n <;> cases nameOk t <;> cases inB lo 1 hi <;> cases metricsOk ms <;> cases paceOk p0 p1 p2 p3 <;> by_cases h:hi≤1000 <;> simp [h]
theorem impl_orderOk (n t : ByteArray) (lo hi : Int) (ms : List S61) (p0 p1 p2 p3 : Int) (ns : List S124) (h1 : n.size ≤ 1048576) (h2 : t.size ≤ 1048576) (h3 : ms.length ≤ 1048576) (h4 : ∀ m ∈ ms, m.f0.size ≤ 1048576)
    (h5:ns.length≤1048576) (h6:∀ m ∈ ns,m.f0.size≤1048576∧m.f1.size≤1048576) (k:Nat) (hk:4194304<k):impl_OrderOk.f k n t lo hi ms p0 p1 p2 p3 ns=some (orderOk n t lo hi ms p0 p1 p2 p3 ns):=by
  unfold impl_OrderOk.f
  have e := scanK (g := fun k i => impl_OrderOk.l0 k ms (ms.length : Int) i n t lo hi ms p0 p1 p2 p3 ns) (n := ms.length) (K := 2097154) (P := mStep ms) (e := nameOk n && (nameOk t && (inB lo 1 hi && (decide (hi ≤ 1000) && (decide ((ms.length : Int) ≤ 4) && (paceOk p0 p1 p2 p3 && notesOk ns))))))
    (fun k hk=>by
      simp only [impl_OrderOk.l0]
      rw [if_neg (by omega)]
      simp only [impl_nameOk n (by omega) k (by omega),impl_nameOk t (by omega) k (by omega),from_eq,impl_paceOk,impl_notes ns h5 h6 k (by omega),Option.bind_some]
      cases nameOk n <;> cases nameOk t <;> cases inB lo 1 hi <;> cases paceOk p0 p1 p2 p3 <;> by_cases h:hi≤1000 <;> by_cases h':(ms.length:Int)≤4 <;> simp [h,h'])
    (fun k i hk hi=>by
      have er:rd_T61 ms (i:Int)=ms[i]:=getD_at ms _ i hi
      have h1:=h4 _ (List.getElem_mem hi)
      simp only [impl_OrderOk.l0]
      rw [if_pos (by omega),if_pos (by omega),if_pos (by omega),impl_metricOk _ (by rw [er]; omega) k (by rw [er]; omega),Option.bind_some,wsucc (by omega)]
      unfold mStep
      cases metricOk (rd_T61 ms i)
      · simp
      · rcases Nat.eq_zero_or_pos i with rfl | h0
        · simp
        · rw [if_pos rfl,if_pos (by omega),if_pos (by rw [w64 (by omega) (by omega)]; omega),if_pos (by rw [w64 (by omega) (by omega)]; omega),decide_eq_false (by omega),Bool.true_and,Bool.false_or]) ms.length 0 k (by omega) (by omega)
  have e0:((0:Nat):Int)=0:=rfl
  rw [e0] at e
  rw [e]
  unfold orderOk metricsOk
  cases nameOk n <;> cases nameOk t <;> cases inB lo 1 hi <;> cases (List.range' 0 ms.length).all (mStep ms) <;> cases paceOk p0 p1 p2 p3 <;> by_cases h:hi≤1000 <;> by_cases h':(ms.length:Int)≤4 <;> simp [h,h']
end Go.Proofs.YtdlhidjphaaklaaGreat.M
end
section
namespace Go.Proofs.YtdlhidjphaaklaaGreat.H
open Go.RowKit Go.Proofs.YtdlhidjphaaklaaGreat.P Go.Proofs.YtdlhidjphaaklaaGreatW.PrintWords Go.Proofs.YtdlhidjphaaklaaGreatW.PrintLast Go.Proofs.YtdlhidjphaaklaaGreat.M
section
variable {P:Program} {ops:Array Oper} {Q:Exit→Act→World→Prop}
end
theorem sum_set_le (l:List Nat) (i n:Nat):(l.set i n).sum≤l.sum + n:=by
  induction l generalizing i with
  | nil=>simp
  | cons x xs ih =>
    cases i with
    | zero=>simp only [List.set_cons_zero,List.sum_cons]; omega
    | succ i=>have:=ih i; simp only [List.set_cons_succ,List.sum_cons]; omega
theorem cnt_setV (x:S32) (key:ByteArray) (y:S32):cntTop (setV x key y)≤cntTop x + cntTop y + 4:=by
  have hy:cntK y=3 + cntTop y:=by rw [cntK_eq]; unfold cntTop; omega
  unfold setV
  split
  · split
    · rename_i i _
      unfold cntTop at hy ⊢
      simp only [List.map_set]
      have:=sum_set_le (x.f4.map cntK) i (cntK y)
      omega
    · unfold cntTop at hy ⊢
      simp only [List.map_append,List.map_cons,List.sum_append,List.sum_cons,List.length_append,List.length_cons]
      have h1:(x.f3.take (insAt x.f3 key)).length + (x.f3.drop (insAt x.f3 key)).length=x.f3.length:=by rw [← List.length_append,List.take_append_drop]
      have h2:((x.f4.take (insAt x.f3 key)).map cntK).sum + ((x.f4.drop (insAt x.f3 key)).map cntK).sum=(x.f4.map cntK).sum:=by rw [← List.sum_append,← List.map_append,List.take_append_drop]
      omega
  · omega
end Go.Proofs.YtdlhidjphaaklaaGreat.H
end
section
namespace Go.Proofs.YtdlhidjphaaklaaGreat.H
open Go.RowKit Go.Proofs.YtdlhidjphaaklaaGreat.P Go.Proofs.YtdlhidjphaaklaaGreatW.PrintWords Go.Proofs.YtdlhidjphaaklaaGreat.M
abbrev Nd:=S32
def tup (x:Nd):Int × Int × ByteArray × List ByteArray × List Nd:=(x.f0,x.f1,x.f2,x.f3,x.f4)
theorem eta_ (x:Nd):(⟨x.f0,x.f1,x.f2,x.f3,x.f4⟩:Nd)=x:=by cases x;rfl
theorem iSet (x y:Nd) (key:ByteArray) (h:cntTop x≤1099511627776) (h':cntTop y≤1099511627776):impl_Set.f x.f0 x.f1 x.f2 x.f3 x.f4 key y.f0 y.f1 y.f2 y.f3 y.f4=some (tup (setV x key y)):=by
  cases x
  cases y
  unfold impl_Set.f
  exact if_pos ⟨h,h'⟩
theorem sSet (x y:Nd) (key:ByteArray) (h:cntTop x≤1099511627776) (h':cntTop y≤1099511627776):spec_Set.f x.f0 x.f1 x.f2 x.f3 x.f4 key y.f0 y.f1 y.f2 y.f3 y.f4=some (tup (setV x key y)):=by
  cases x
  cases y
  unfold spec_Set.f
  exact if_pos ⟨h,h'⟩
noncomputable def mapV (ks : List ByteArray) (kids : List Nd) : Nat → Nd
  | 0=>⟨5,0,⟨#[]⟩,[],[]⟩
  | i + 1=>setV (mapV ks kids i) (ks.getD i ByteArray.empty) (rd_T32 kids (i:Int))
theorem cnt_mapV (ks:List ByteArray) (kids:List Nd) (hk:∀ y ∈ kids,cntTop y=0):∀ i,i≤kids.length→cntTop (mapV ks kids i)≤4*i:=by
  intro i
  induction i with
  | zero=>intro _;simp [mapV,cntTop]
  | succ i ih =>
    intro hi
    have h1:=ih (by omega)
    have h2:=cnt_setV (mapV ks kids i) (ks.getD i ByteArray.empty) (rd_T32 kids (i:Int))
    have h3:cntTop (rd_T32 kids (i:Int))=0:=by
      rw [rdT2 _ i (by omega)]
      exact hk _ (List.getElem_mem _)
    show cntTop (setV _ _ _)≤_
    omega
theorem impl_map_ev (ks:List ByteArray) (kids:List Nd) (hl:ks.length=kids.length) (hn:ks.length≤1048576) (hk:∀ y ∈ kids,cntTop y=0):Ev (fun k=>impl_mapOf.f k ks kids) (tup (mapV ks kids ks.length)):=by
  unfold impl_mapOf.f
  refine ev_loop (l0:=fun k (s:Nd) i=>impl_mapOf.l0 k kids ks (ks.length:Int) i s.f0 s.f1 s.f2 s.f3 s.f4) (n:=ks.length) (mapV ks kids) ?_ ?_
  · exact Ev.lift (f:=fun _=>some (tup (mapV ks kids ks.length))) (fun k=>by simp only [impl_mapOf.l0];rw [if_neg (by omega)];rfl) (Ev.now _)
  · intro i hi h
    refine Ev.lift (f:=fun k=>impl_mapOf.l0 k kids ks (ks.length:Int) ((i + 1:Nat):Int) (mapV ks kids (i + 1)).f0 (mapV ks kids (i + 1)).f1 (mapV ks kids (i + 1)).f2 (mapV ks kids (i + 1)).f3 (mapV ks kids (i + 1)).f4) (fun k=>?_) h
    have h1:=cnt_mapV ks kids hk i (by omega)
    have h3:cntTop (rd_T32 kids (i:Int))=0:=by
      rw [rdT2 _ i (by omega)]
      exact hk _ (List.getElem_mem _)
    simp only [impl_mapOf.l0]
    rw [if_pos (by omega),if_pos (by omega),if_pos (by omega),if_pos (by omega),iSet _ _ _ (by omega) (by omega),Option.bind_some,wsucc (by omega)]
    rfl
theorem spec_map_ev (ks:List ByteArray) (kids:List Nd) (hl:ks.length=kids.length) (hn:ks.length≤1048576) (hk:∀ y ∈ kids,cntTop y=0):Ev (fun k=>spec_l7Map.f k ks kids) (tup (mapV ks kids ks.length)):=by
  unfold spec_l7Map.f
  refine ev_loop (l0:=fun k (s:Nd) i=>spec_l7Map.l0 k ks kids i s.f0 s.f1 s.f2 s.f3 s.f4) (n:=ks.length) (mapV ks kids) ?_ ?_
  · exact Ev.lift (f:=fun _=>some (tup (mapV ks kids ks.length))) (fun k=>by simp only [spec_l7Map.l0];rw [if_neg (by omega)];rfl) (Ev.now _)
  · intro i hi h
    refine Ev.lift (f:=fun k=>spec_l7Map.l0 k ks kids ((i + 1:Nat):Int) (mapV ks kids (i + 1)).f0 (mapV ks kids (i + 1)).f1 (mapV ks kids (i + 1)).f2 (mapV ks kids (i + 1)).f3 (mapV ks kids (i + 1)).f4) (fun k=>?_) h
    have h1:=cnt_mapV ks kids hk i (by omega)
    have h3:cntTop (rd_T32 kids (i:Int))=0:=by
      rw [rdT2 _ i (by omega)]
      exact hk _ (List.getElem_mem _)
    simp only [spec_l7Map.l0]
    rw [if_pos (by omega),if_pos (by omega),if_pos (by omega),sSet _ _ _ (by omega) (by omega),Option.bind_some,wsucc (by omega)]
    rfl
def kindText (n:Int):ByteArray:=if n=1 then ⟨#[115,104,97,114,101]⟩ else if n=2 then ⟨#[109,101,97,110]⟩ else if n=3 then ⟨#[119,104,111,108,101]⟩ else ⟨#[110,111,110,101]⟩
theorem impl_kindText (n:Int):impl_kindWord.f n=some (kindText n):=by
  unfold impl_kindWord.f kindText
  by_cases h1:n=1
  · rw [if_pos h1,if_pos h1]
  · by_cases h2 : n = 2
    · rw [if_neg h1,if_neg h1,if_pos h2,if_pos h2]
    · by_cases h3 : n = 3
      · rw [if_neg h1,if_neg h1,if_neg h2,if_neg h2,if_pos h3,if_pos h3]
      · rw [if_neg h1,if_neg h1,if_neg h2,if_neg h2,if_neg h3,if_neg h3]
theorem spec_kindText (n:Int):spec_l7Kind.f n=some (kindText n):=by
  unfold spec_l7Kind.f kindText spec_l1In.f
  by_cases h:1≤n∧n≤3
  · obtain ⟨h1, h2⟩ := h
    rcases (by omega:n=1 ∨ n=2 ∨ n=3) with rfl | rfl | rfl<;>simp [rdOf]
  · have e1 : n ≠ 1 := by omega
    have e2:n ≠ 2:=by omega
    have e3:n ≠ 3:=by omega
    by_cases h1:1≤n
    · have h2 : ¬ n ≤ 3 := fun e => h ⟨h1, e⟩
      simp [e1,e2,e3,h1,h2]
    · simp [e1,e2,e3,h1]
def intN (n:Int):Nd:=⟨2,n,⟨#[]⟩,[],[]⟩
def textN (s:ByteArray):Nd:=⟨3,0,s,[],[]⟩
theorem cnt_leaves (l:List Nd) (h:∀ y ∈ l,y.f3=[]∧y.f4=[]):∀ y ∈ l,cntTop y=0:=fun y hy=>by
  obtain ⟨h1,h2⟩:=h y hy
  simp [cntTop,h1,h2]
noncomputable def paceV (a0 a1 a2 a3:Int):Nd:=mapV [(⟨#[100,111,119,110]⟩:ByteArray),(⟨#[117,112]⟩:ByteArray),(⟨#[100,111,119,110,115,112,97,110]⟩:ByteArray),(⟨#[117,112,115,112,97,110]⟩:ByteArray)] [intN a1,intN a0,textN (spanText a3),textN (spanText a2)] 4
noncomputable def metricV (m:S61):Nd:=mapV [(⟨#[110,97,109,101]⟩:ByteArray),(⟨#[107,105,110,100]⟩:ByteArray),(⟨#[103,111,97,108]⟩:ByteArray)] [textN m.f0,textN (kindText m.f1),textN (amountText m.f2)] 3
noncomputable def headV (n t:ByteArray) (lo hi:Int) (kd:ByteArray):Nd:=mapV [(⟨#[107,105,110,100]⟩:ByteArray),(⟨#[110,97,109,101]⟩:ByteArray),(⟨#[116,97,114,103,101,116]⟩:ByteArray),(⟨#[108,111,119]⟩:ByteArray),(⟨#[104,105,103,104]⟩:ByteArray)] [textN kd,textN n,textN t,intN lo,intN hi] 5
theorem cnt_metricV (m:S61):cntTop (metricV m)≤12:=cnt_mapV _ _ (cnt_leaves _ (by simp [intN,textN])) 3 (by simp)
theorem cnt_headV (n t:ByteArray) (lo hi:Int) (kd:ByteArray):cntTop (headV n t lo hi kd)≤20:=cnt_mapV _ _ (cnt_leaves _ (by simp [intN,textN])) 5 (by simp)
theorem impl_pace_ev (a0 a1 a2 a3:Int):Ev (fun k=>impl_PaceTree.f k a0 a1 a2 a3) (tup (paceV a0 a1 a2 a3)):=by
  unfold impl_PaceTree.f
  simp only [impl_IntOf.f,impl_TextOf.f,Option.bind_some]
  refine Ev.bind (Ev.past (fun k hk=>impl_spanText a3 k hk)) (Ev.bind (Ev.past (fun k hk=>impl_spanText a2 k hk)) (Ev.bind (impl_map_ev _ [intN a1,intN a0,textN (spanText a3),textN (spanText a2)] rfl (by simp) (cnt_leaves _ (by simp [intN,textN]))) (Ev.now _)))
theorem spec_pace_ev (a0 a1 a2 a3:Int):Ev (fun k=>spec_PaceTree.f k a0 a1 a2 a3) (tup (paceV a0 a1 a2 a3)):=by
  unfold spec_PaceTree.f
  simp only [spec_IntOf.f,spec_TextOf.f,Option.bind_some]
  refine Ev.bind (Ev.past (fun k hk=>spec_spanText a3 k hk)) (Ev.bind (Ev.past (fun k hk=>spec_spanText a2 k hk)) (Ev.bind (spec_map_ev _ [intN a1,intN a0,textN (spanText a3),textN (spanText a2)] rfl (by simp) (cnt_leaves _ (by simp [intN,textN]))) (Ev.now _)))
theorem impl_metric_ev (m:S61):Ev (fun k=>impl_MetricTree.f k m.f0 m.f1 m.f2) (tup (metricV m)):=by
  unfold impl_MetricTree.f
  simp only [impl_TextOf.f,Option.bind_some,impl_kindText]
  refine Ev.bind (Ev.past (fun k hk=>impl_amountText m.f2 k hk)) (Ev.bind (impl_map_ev _ [textN m.f0,textN (kindText m.f1),textN (amountText m.f2)] rfl (by simp) (cnt_leaves _ (by simp [intN,textN]))) (Ev.now _))
theorem spec_metric_ev (m:S61):Ev (fun k=>spec_MetricTree.f k m.f0 m.f1 m.f2) (tup (metricV m)):=by
  unfold spec_MetricTree.f
  simp only [spec_TextOf.f,Option.bind_some,spec_kindText]
  refine Ev.bind (Ev.past (fun k hk=>spec_amountText m.f2 k hk)) (Ev.bind (spec_map_ev _ [textN m.f0,textN (kindText m.f1),textN (amountText m.f2)] rfl (by simp) (cnt_leaves _ (by simp [intN,textN]))) (Ev.now _))
theorem impl_head_ev (n t:ByteArray) (lo hi:Int) (ms:List S61) (p0 p1 p2 p3:Int) (ns:List S124) (kd:ByteArray):Ev (fun k=>impl_commonTree.f k n t lo hi ms p0 p1 p2 p3 ns kd) (tup (headV n t lo hi kd)):=by
  unfold impl_commonTree.f
  simp only [impl_IntOf.f,impl_TextOf.f,Option.bind_some]
  exact Ev.bind (impl_map_ev _ [textN kd,textN n,textN t,intN lo,intN hi] rfl (by simp) (cnt_leaves _ (by simp [intN,textN]))) (Ev.now _)
theorem spec_head_ev (n t:ByteArray) (lo hi:Int) (ms:List S61) (p0 p1 p2 p3:Int) (ns:List S124) (kd:ByteArray):Ev (fun k=>spec_l7Head.f k n t lo hi ms p0 p1 p2 p3 ns kd) (tup (headV n t lo hi kd)):=by
  unfold spec_l7Head.f
  simp only [spec_IntOf.f,spec_TextOf.f,Option.bind_some]
  exact Ev.bind (spec_map_ev _ [textN kd,textN n,textN t,intN lo,intN hi] rfl (by simp) (cnt_leaves _ (by simp [intN,textN]))) (Ev.now _)
def listN (l:List Nd):Nd:=⟨4,0,⟨#[]⟩,[],l⟩
noncomputable def metricsV (ms:List S61):Nd:=listN (ms.map metricV)
theorem cnt_metricsV (ms:List S61):cntTop (metricsV ms)≤15*ms.length:=by
  show 0 + _≤_
  rw [Nat.zero_add]
  show ((ms.map metricV).map cntK).sum≤_
  induction ms with
  | nil=>simp
  | cons m ms ih =>
    have h:=cnt_metricV m
    have e:cntK (metricV m)=3 + cntTop (metricV m):=by rw [cntK_eq];unfold cntTop;omega
    simp only [List.map_cons,List.sum_cons,List.length_cons]
    omega
theorem take_succ_map {α:Type} (f:α→Nd) (l:List α) (i:Nat) (h:i<l.length):(l.take (i + 1)).map f=(l.take i).map f ++ [f l[i]]:=by
  rw [List.take_succ_eq_append_getElem h,List.map_append];rfl
theorem rdM (xs:List S61) (i:Nat) (h:i<xs.length):rd_T61 xs (i:Int)=xs[i]:=by
  show xs.getD i _=_
  rw [List.getD_eq_getElem?_getD,List.getElem?_eq_getElem h];rfl
theorem impl_metrics_ev (ms:List S61) (hl:ms.length≤1048576):Ev (fun k=>impl_metricsTree.f k ms) (tup (metricsV ms)):=by
  unfold impl_metricsTree.f
  refine ev_loop (l0:=fun k (s:List Nd) i=>impl_metricsTree.l0 k ms (ms.length:Int) i 4 0 ⟨#[]⟩ s) (n:=ms.length) (fun i=>(ms.take i).map metricV) ?_ ?_
  · refine Ev.lift (f := fun _ => some (tup (metricsV ms))) (fun k => ?_) (Ev.now _)
    simp only [impl_metricsTree.l0]
    rw [if_neg (by omega),List.take_length]
    rfl
  · intro i hi h
    refine Ev.lift (f:=fun k=>(impl_MetricTree.f k (ms[i]).f0 (ms[i]).f1 (ms[i]).f2).bind fun b=>impl_metricsTree.l0 k ms (ms.length:Int) ((i + 1:Nat):Int) 4 0 ⟨#[]⟩ ((ms.take i).map metricV ++ [⟨b.1,b.2.1,b.2.2.1,b.2.2.2.1,b.2.2.2.2⟩])) (fun k=>?_) (Ev.bind (impl_metric_ev ms[i]) ?_)
    · simp only [impl_metricsTree.l0]
      rw [if_pos (by omega),if_pos (by omega),if_pos (by omega),rdM ms i hi,wsucc (by omega)]
      simp only [List.length_map,List.length_take]
      congr 1
      funext b
      rw [if_pos (by omega)]
    · show Ev (fun k => impl_metricsTree.l0 k ms (ms.length : Int) ((i + 1 : Nat) : Int) 4 0 ⟨#[]⟩ ((ms.take i).map metricV ++ [⟨(metricV ms[i]).f0, (metricV ms[i]).f1, (metricV ms[i]).f2, (metricV ms[i]).f3, (metricV ms[i]).f4⟩])) _
      rw [eta_,← take_succ_map metricV ms i hi]
      exact h
theorem spec_metrics_ev (ms:List S61) (hl:ms.length≤1048576):Ev (fun k=>spec_l7Metrics.f k ms) (tup (metricsV ms)):=by
  unfold spec_l7Metrics.f
  refine ev_loop (l0:=fun k (s:List Nd) i=>spec_l7Metrics.l0 k ms i 4 0 ⟨#[]⟩ s) (n:=ms.length) (fun i=>(ms.take i).map metricV) ?_ ?_
  · refine Ev.lift (f := fun _ => some (tup (metricsV ms))) (fun k => ?_) (Ev.now _)
    simp only [spec_l7Metrics.l0]
    rw [if_neg (by omega),List.take_length]
    rfl
  · intro i hi h
    refine Ev.lift (f:=fun k=>(spec_MetricTree.f k (ms[i]).f0 (ms[i]).f1 (ms[i]).f2).bind fun b=>spec_l7Metrics.l0 k ms ((i + 1:Nat):Int) 4 0 ⟨#[]⟩ ((ms.take i).map metricV ++ [⟨b.1,b.2.1,b.2.2.1,b.2.2.2.1,b.2.2.2.2⟩])) (fun k=>?_) (Ev.bind (spec_metric_ev ms[i]) ?_)
    · simp only [spec_l7Metrics.l0]
      rw [if_pos (by omega),if_pos (by omega),rdM ms i hi,wsucc (by omega)]
      simp only [List.length_map,List.length_take]
      congr 1
      funext b
      rw [if_pos (by omega)]
    · show Ev (fun k => spec_l7Metrics.l0 k ms ((i + 1 : Nat) : Int) 4 0 ⟨#[]⟩ ((ms.take i).map metricV ++ [⟨(metricV ms[i]).f0, (metricV ms[i]).f1, (metricV ms[i]).f2, (metricV ms[i]).f3, (metricV ms[i]).f4⟩])) _
      rw [eta_,← take_succ_map metricV ms i hi]
      exact h
noncomputable def notesV (ns : List S124) : Nat → Nd
  | 0=>⟨5,0,⟨#[]⟩,[],[]⟩
  | i + 1=>setV (notesV ns i) (rd_T124 ns (i:Int)).f0 (textN (rd_T124 ns (i:Int)).f1)
theorem cnt_textN (s:ByteArray):cntTop (textN s)=0:=by simp [textN,cntTop]
theorem cnt_notesV (ns:List S124):∀ i,cntTop (notesV ns i)≤4*i:=by
  intro i
  induction i with
  | zero=>simp [notesV,cntTop]
  | succ i ih =>
    have h2:=cnt_setV (notesV ns i) (rd_T124 ns (i:Int)).f0 (textN (rd_T124 ns (i:Int)).f1)
    have h3:=cnt_textN (rd_T124 ns (i:Int)).f1
    show cntTop (setV _ _ _)≤_
    omega
theorem impl_notes_ev (ns:List S124) (hn:ns.length≤1048576):Ev (fun k=>impl_notesTree.f k ns) (tup (notesV ns ns.length)):=by
  unfold impl_notesTree.f
  refine ev_loop (l0:=fun k (s:Nd) i=>impl_notesTree.l0 k ns (ns.length:Int) i s.f0 s.f1 s.f2 s.f3 s.f4) (n:=ns.length) (notesV ns) ?_ ?_
  · exact Ev.lift (f:=fun _=>some (tup (notesV ns ns.length))) (fun k=>by simp only [impl_notesTree.l0];rw [if_neg (by omega)];rfl) (Ev.now _)
  · intro i hi h
    refine Ev.lift (f:=fun k=>impl_notesTree.l0 k ns (ns.length:Int) ((i + 1:Nat):Int) (notesV ns (i + 1)).f0 (notesV ns (i + 1)).f1 (notesV ns (i + 1)).f2 (notesV ns (i + 1)).f3 (notesV ns (i + 1)).f4) (fun k=>?_) h
    have h1:=cnt_notesV ns i
    have h3:=cnt_textN (rd_T124 ns (i:Int)).f1
    have e:=iSet (notesV ns i) (textN (rd_T124 ns (i:Int)).f1) (rd_T124 ns (i:Int)).f0 (by omega) (by omega)
    simp only [impl_notesTree.l0,impl_TextOf.f,Option.bind_some]
    rw [if_pos (by omega),if_pos (by omega),if_pos (by omega)]
    refine (congrArg (fun z=>Option.bind z _) e).trans ?_
    rw [Option.bind_some,wsucc (by omega)]
    rfl
theorem spec_notes_ev (ns:List S124) (hn:ns.length≤1048576):Ev (fun k=>spec_l7Notes.f k ns) (tup (notesV ns ns.length)):=by
  unfold spec_l7Notes.f
  refine ev_loop (l0:=fun k (s:Nd) i=>spec_l7Notes.l0 k ns i s.f0 s.f1 s.f2 s.f3 s.f4) (n:=ns.length) (notesV ns) ?_ ?_
  · exact Ev.lift (f:=fun _=>some (tup (notesV ns ns.length))) (fun k=>by simp only [spec_l7Notes.l0];rw [if_neg (by omega)];rfl) (Ev.now _)
  · intro i hi h
    refine Ev.lift (f:=fun k=>spec_l7Notes.l0 k ns ((i + 1:Nat):Int) (notesV ns (i + 1)).f0 (notesV ns (i + 1)).f1 (notesV ns (i + 1)).f2 (notesV ns (i + 1)).f3 (notesV ns (i + 1)).f4) (fun k=>?_) h
    have h1:=cnt_notesV ns i
    have h3:=cnt_textN (rd_T124 ns (i:Int)).f1
    have e:=sSet (notesV ns i) (textN (rd_T124 ns (i:Int)).f1) (rd_T124 ns (i:Int)).f0 (by omega) (by omega)
    simp only [spec_l7Notes.l0,spec_TextOf.f,Option.bind_some]
    rw [if_pos (by omega),if_pos (by omega)]
    refine (congrArg (fun z=>Option.bind z _) e).trans ?_
    rw [Option.bind_some,wsucc (by omega)]
    rfl
theorem totK_setV (x:Nd) (key:ByteArray) (y:Nd):totK (setV x key y)≤totK x + totK y + key.size + 2:=by
  unfold setV
  split
  · split
    · rename_i i _
      rw [totK_eq,totK_eq x]
      simp only [List.map_set,List.length_set]
      have:=sum_set_le (x.f4.map totK) i (totK y)
      omega
    · rw [totK_eq, totK_eq x]
      simp only [List.map_append,List.map_cons,List.sum_append,List.sum_cons,List.length_append,List.length_cons]
      have h1:(x.f3.take (insAt x.f3 key)).length + (x.f3.drop (insAt x.f3 key)).length=x.f3.length:=by rw [← List.length_append,List.take_append_drop]
      have h2:((x.f4.take (insAt x.f3 key)).map totK).sum + ((x.f4.drop (insAt x.f3 key)).map totK).sum=(x.f4.map totK).sum:=by rw [← List.sum_append,← List.map_append,List.take_append_drop]
      have h3:((x.f3.take (insAt x.f3 key)).map ByteArray.size).sum + ((x.f3.drop (insAt x.f3 key)).map ByteArray.size).sum=(x.f3.map ByteArray.size).sum:=by rw [← List.sum_append,← List.map_append,List.take_append_drop]
      have h4:(x.f4.take (insAt x.f3 key)).length + (x.f4.drop (insAt x.f3 key)).length=x.f4.length:=by rw [← List.length_append,List.take_append_drop]
      omega
  · omega
theorem totK_intN (n:Int):totK (intN n)=0:=by rw [totK_eq];rfl
theorem totK_textN (s:ByteArray):totK (textN s)=s.size:=by rw [totK_eq];simp [textN]
theorem totK_mapV (ks:List ByteArray) (kids:List Nd) {c d:Nat} (hk:∀ y ∈ kids,totK y≤c) (hd:∀ s ∈ ks,s.size≤d):∀ i,i≤kids.length→totK (mapV ks kids i)≤(c + d + 2)*i:=by
  intro i
  induction i with
  | zero=>intro _;show totK ⟨5,0,⟨#[]⟩,[],[]⟩≤_;rw [totK_eq];exact Nat.zero_le _
  | succ i ih =>
    intro hi
    have h1:=ih (by omega)
    have h2:=totK_setV (mapV ks kids i) (ks.getD i ByteArray.empty) (rd_T32 kids (i:Int))
    have h3:totK (rd_T32 kids (i:Int))≤c:=by
      rw [rdT2 _ i (by omega)]
      exact hk _ (List.getElem_mem _)
    have h4:(ks.getD i ByteArray.empty).size≤d:=by
      rw [List.getD_eq_getElem?_getD]
      cases e:ks[i]? with
      | none=>exact Nat.zero_le _
      | some s=>exact hd s (List.mem_of_getElem? e)
    show totK (setV _ _ _)≤_
    rw [Nat.mul_succ]
    omega
theorem span_size (n:Int):(spanText n).size≤30:=by
  unfold spanText
  split
  · rename_i h
    unfold inB at h
    simp only [Bool.and_eq_true,decide_eq_true_eq] at h
    have e:∀ (m:Int) (c:UInt8),0≤m→m≤1000000→(digits m ++ ⟨#[c]⟩).size≤30:=fun m c h0 h1=>by
      have:=digits_size (n:=m) (by omega) (by omega)
      rw [ByteArray.size_append]
      show _ + 1≤_
      omega
    split
    · exact e _ _ (by omega) (by omega)
    · split
      · exact e _ _ (by omega) (by omega)
      · exact e _ _ (by omega) (by omega)
  · show 0 ≤ _
    omega
theorem totK_paceV (a0 a1 a2 a3:Int):totK (paceV a0 a1 a2 a3)≤160 :=
  totK_mapV _ _ (c:=30) (d:=8) (by
    intro y hy
    simp only [List.mem_cons,List.not_mem_nil,or_false] at hy
    have h2:=span_size a3
    have h3:=span_size a2
    rcases hy with rfl | rfl | rfl | rfl<;>simp only [totK_intN,totK_textN]<;>omega) (by
    intro s hs
    simp only [List.mem_cons,List.not_mem_nil,or_false] at hs
    rcases hs with rfl | rfl | rfl | rfl<;>decide) 4 (by simp)
def pnB (p0 p1 p2 p3:Int):Bool:=(!(p0 == 0) || (!(p1 == 0) || (!(p2 == 0) || (!(p3 == 300)))))
def ownPaceK:ByteArray:=⟨#[113,117,97,121,47,112,97,99,101]⟩
noncomputable def pacedV (p0 p1 p2 p3:Int) (ns:List S124):Nd:=if pnB p0 p1 p2 p3=true then setV (notesV ns ns.length) ownPaceK (textN (bracedK (paceV p0 p1 p2 p3))) else notesV ns ns.length
theorem cnt_pacedV (p0 p1 p2 p3:Int) (ns:List S124):cntTop (pacedV p0 p1 p2 p3 ns)≤4*ns.length + 4:=by
  have h1:=cnt_notesV ns ns.length
  have h2:=cnt_setV (notesV ns ns.length) ownPaceK (textN (bracedK (paceV p0 p1 p2 p3)))
  have h3:=cnt_textN (bracedK (paceV p0 p1 p2 p3))
  unfold pacedV
  split<;>omega
theorem impl_paced_ev (n t:ByteArray) (lo hi:Int) (ms:List S61) (p0 p1 p2 p3:Int) (ns:List S124) (hn:ns.length≤1048576):Ev (fun k=>impl_pacedNotes.f k n t lo hi ms p0 p1 p2 p3 ns) (tup (pacedV p0 p1 p2 p3 ns)):=by
  unfold impl_pacedNotes.f pacedV
  simp only [impl_PaceNew.f,impl_TextOf.f,Option.bind_some]
  refine Ev.bind (impl_notes_ev ns hn) ?_
  by_cases hp:pnB p0 p1 p2 p3=true
  · have hp' : (!(p0 == 0) || (!(p1 == 0) || (!(p2 == 0) || (!(p3 == 300))))) = true := hp
    simp only [if_pos hp,if_pos hp']
    have h1:=cnt_notesV ns ns.length
    have h3:=cnt_textN (bracedK (paceV p0 p1 p2 p3))
    have e:=iSet (notesV ns ns.length) (textN (bracedK (paceV p0 p1 p2 p3))) ownPaceK (by omega) (by omega)
    have hb:=impl_braced_ev (paceV p0 p1 p2 p3) (by have:=totK_paceV p0 p1 p2 p3;omega)
    exact Ev.bind (impl_pace_ev p0 p1 p2 p3) (Ev.bind hb (Ev.bind (Ev.eq (fun _=>e) rfl) (Ev.now _)))
  · have hp' : ¬ (!(p0 == 0) || (!(p1 == 0) || (!(p2 == 0) || (!(p3 == 300))))) = true := hp
    simp only [if_neg hp,if_neg hp']
    exact Ev.now _
theorem spec_paced_ev (n t:ByteArray) (lo hi:Int) (ms:List S61) (p0 p1 p2 p3:Int) (ns:List S124) (hn:ns.length≤1048576):Ev (fun k=>spec_l8Saved.f k n t lo hi ms p0 p1 p2 p3 ns) (tup (pacedV p0 p1 p2 p3 ns)):=by
  unfold spec_l8Saved.f pacedV
  simp only [spec_PaceNew.f,spec_TextOf.f,Option.bind_some]
  refine Ev.bind (spec_notes_ev ns hn) ?_
  by_cases hp:pnB p0 p1 p2 p3=true
  · have hp' : (!(p0 == 0) || (!(p1 == 0) || (!(p2 == 0) || (!(p3 == 300))))) = true := hp
    simp only [if_pos hp,if_pos hp']
    have h1:=cnt_notesV ns ns.length
    have h3:=cnt_textN (bracedK (paceV p0 p1 p2 p3))
    have e:=sSet (notesV ns ns.length) (textN (bracedK (paceV p0 p1 p2 p3))) ownPaceK (by omega) (by omega)
    have hb:=spec_braced_ev (paceV p0 p1 p2 p3) (by have:=totK_paceV p0 p1 p2 p3;omega)
    exact Ev.bind (spec_pace_ev p0 p1 p2 p3) (Ev.bind hb (Ev.bind (Ev.eq (fun _=>e) rfl) (Ev.now _)))
  · have hp' : ¬ (!(p0 == 0) || (!(p1 == 0) || (!(p2 == 0) || (!(p3 == 300))))) = true := hp
    simp only [if_neg hp,if_neg hp']
    exact Ev.now _
noncomputable def mid1 (n t:ByteArray) (lo hi:Int) (ms:List S61):Nd:=setV (headV n t lo hi ⟨#[109,105,100,100,108,101]⟩) ⟨#[109,101,116,114,105,99,115]⟩ (metricsV ms)
noncomputable def mid2 (n t:ByteArray) (lo hi:Int) (ms:List S61) (p0 p1 p2 p3:Int) (ns:List S124):Nd:=setV (mid1 n t lo hi ms) ⟨#[110,111,116,101,115]⟩ (pacedV p0 p1 p2 p3 ns)
noncomputable def midV (n t:ByteArray) (lo hi:Int) (ms:List S61) (p0 p1 p2 p3:Int) (ns:List S124):Nd:=if orderOk n t lo hi ms p0 p1 p2 p3 ns=true then mid2 n t lo hi ms p0 p1 p2 p3 ns else node0
theorem cnt_mid (n t:ByteArray) (lo hi:Int) (ms:List S61) (p0 p1 p2 p3:Int) (ns:List S124) (h3:ms.length≤1048576) (h5:ns.length≤1048576):cntTop (mid1 n t lo hi ms)≤15728664∧cntTop (mid2 n t lo hi ms p0 p1 p2 p3 ns)≤19923000:=by
  have a1:=cnt_headV n t lo hi ⟨#[109,105,100,100,108,101]⟩
  have a2:=cnt_metricsV ms
  have a3:=cnt_setV (headV n t lo hi ⟨#[109,105,100,100,108,101]⟩) ⟨#[109,101,116,114,105,99,115]⟩ (metricsV ms)
  have a6:=cnt_pacedV p0 p1 p2 p3 ns
  have a7:=cnt_setV (mid1 n t lo hi ms) ⟨#[110,111,116,101,115]⟩ (pacedV p0 p1 p2 p3 ns)
  have b1:cntTop (mid1 n t lo hi ms)≤15728664:=by unfold mid1;omega
  exact ⟨b1,by unfold mid2;omega⟩
theorem cnt_midV (n t:ByteArray) (lo hi:Int) (ms:List S61) (p0 p1 p2 p3:Int) (ns:List S124) (h3:ms.length≤1048576) (h5:ns.length≤1048576):cntTop (midV n t lo hi ms p0 p1 p2 p3 ns)≤19923000:=by
  unfold midV
  split
  · exact (cnt_mid n t lo hi ms p0 p1 p2 p3 ns h3 h5).2
  · simp [node0,cntTop]
theorem impl_mid_ev (n t:ByteArray) (lo hi:Int) (ms:List S61) (p0 p1 p2 p3:Int) (ns:List S124) (h1:n.size≤1048576) (h2:t.size≤1048576) (h3:ms.length≤1048576) (h4:∀ m ∈ ms,m.f0.size≤1048576) (h5:ns.length≤1048576) (h6:∀ m ∈ ns,m.f0.size≤1048576∧m.f1.size≤1048576) :
    Ev (fun k=>impl_MidTree.f k n t lo hi ms p0 p1 p2 p3 ns) (tup (midV n t lo hi ms p0 p1 p2 p3 ns)):=by
  unfold impl_MidTree.f midV
  refine Ev.bind (Ev.past (fun k hk=>impl_orderOk n t lo hi ms p0 p1 p2 p3 ns h1 h2 h3 h4 h5 h6 k hk)) ?_
  by_cases ho:orderOk n t lo hi ms p0 p1 p2 p3 ns=true
  · simp only [if_pos ho]
    obtain ⟨c1,c2⟩:=cnt_mid n t lo hi ms p0 p1 p2 p3 ns h3 h5
    have a1:=cnt_headV n t lo hi ⟨#[109,105,100,100,108,101]⟩
    have a2:=cnt_metricsV ms
    have a6:=cnt_pacedV p0 p1 p2 p3 ns
    have e1:=iSet (headV n t lo hi ⟨#[109,105,100,100,108,101]⟩) (metricsV ms) ⟨#[109,101,116,114,105,99,115]⟩ (by omega) (by omega)
    have e3:=iSet (mid1 n t lo hi ms) (pacedV p0 p1 p2 p3 ns) ⟨#[110,111,116,101,115]⟩ (by omega) (by omega)
    exact Ev.bind (impl_head_ev n t lo hi ms p0 p1 p2 p3 ns _) (Ev.bind (impl_metrics_ev ms h3) (Ev.bind (Ev.eq (fun _=>e1) rfl) (Ev.bind (impl_paced_ev n t lo hi ms p0 p1 p2 p3 ns h5) (Ev.bind (Ev.eq (fun _=>e3) rfl) (Ev.now _)))))
  · simp only [if_neg ho]
    exact Ev.now _
theorem spec_mid_ev (n t:ByteArray) (lo hi:Int) (ms:List S61) (p0 p1 p2 p3:Int) (ns:List S124) (h1:n.size≤1048576) (h2:t.size≤1048576) (h3:ms.length≤1048576) (h4:∀ m ∈ ms,m.f0.size≤1048576) (h5:ns.length≤1048576) (h6:∀ m ∈ ns,m.f0.size≤1048576∧m.f1.size≤1048576) :
    Ev (fun k=>spec_MidTree.f k n t lo hi ms p0 p1 p2 p3 ns) (tup (midV n t lo hi ms p0 p1 p2 p3 ns)):=by
  unfold spec_MidTree.f midV
  refine Ev.bind (Ev.past (fun k hk=>spec_orderOk n t lo hi ms p0 p1 p2 p3 ns h1 h2 h3 h4 h5 h6 k hk)) ?_
  by_cases ho:orderOk n t lo hi ms p0 p1 p2 p3 ns=true
  · simp only [if_pos ho]
    obtain ⟨c1,c2⟩:=cnt_mid n t lo hi ms p0 p1 p2 p3 ns h3 h5
    have a1:=cnt_headV n t lo hi ⟨#[109,105,100,100,108,101]⟩
    have a2:=cnt_metricsV ms
    have a6:=cnt_pacedV p0 p1 p2 p3 ns
    have e1:=sSet (headV n t lo hi ⟨#[109,105,100,100,108,101]⟩) (metricsV ms) ⟨#[109,101,116,114,105,99,115]⟩ (by omega) (by omega)
    have e3:=sSet (mid1 n t lo hi ms) (pacedV p0 p1 p2 p3 ns) ⟨#[110,111,116,101,115]⟩ (by omega) (by omega)
    exact Ev.bind (spec_head_ev n t lo hi ms p0 p1 p2 p3 ns _) (Ev.bind (spec_metrics_ev ms h3) (Ev.bind (Ev.eq (fun _=>e1) rfl) (Ev.bind (spec_paced_ev n t lo hi ms p0 p1 p2 p3 ns h5) (Ev.bind (Ev.eq (fun _=>e3) rfl) (Ev.now _)))))
  · simp only [if_neg ho]
    exact Ev.now _
section
variable {P:Program} {ops:Array Oper} {rest:List Oper} {o:Oper} {a:Act} {Q:Exit→Act→World→Prop}
theorem cells10 {W:World} {g:Nat} {t:TypeId} {a0 a1 a2 a3 a4 a5 a6 a7 a8 a9:Value} (h:W.heap[g]?=some (.cells #[a0,a1,a2,a3,a4,a5,a6,a7,a8,a9] t (0,0))):W.cell? ⟨g,0,none⟩=some a0∧W.cell? ⟨g,1,none⟩=some a1∧W.cell? ⟨g,2,none⟩=some a2∧W.cell? ⟨g,3,none⟩=some a3∧W.cell? ⟨g,4,none⟩=some a4∧W.cell? ⟨g,5,none⟩=some a5∧W.cell? ⟨g,6,none⟩=some a6∧W.cell? ⟨g,7,none⟩=some a7∧W.cell? ⟨g,8,none⟩=some a8∧W.cell? ⟨g,9,none⟩=some a9 :=
  ⟨(blk_cell h 0).trans rfl,(blk_cell h 1).trans rfl,(blk_cell h 2).trans rfl,(blk_cell h 3).trans rfl,(blk_cell h 4).trans rfl,(blk_cell h 5).trans rfl,(blk_cell h 6).trans rfl,(blk_cell h 7).trans rfl,(blk_cell h 8).trans rfl,(blk_cell h 9).trans rfl⟩
theorem free10 {W:World} {g:Nat} {t:TypeId} {cs:Array Value} (h:W.heap[g]?=some (.cells cs t (0,0))):W.frozen? ⟨g,0,none⟩=false∧W.frozen? ⟨g,1,none⟩=false∧W.frozen? ⟨g,2,none⟩=false∧W.frozen? ⟨g,3,none⟩=false∧W.frozen? ⟨g,4,none⟩=false∧W.frozen? ⟨g,5,none⟩=false∧W.frozen? ⟨g,6,none⟩=false∧W.frozen? ⟨g,7,none⟩=false∧W.frozen? ⟨g,8,none⟩=false∧W.frozen? ⟨g,9,none⟩=false :=
  ⟨blk_frozen h 0,blk_frozen h 1,blk_frozen h 2,blk_frozen h 3,blk_frozen h 4,blk_frozen h 5,blk_frozen h 6,blk_frozen h 7,blk_frozen h 8,blk_frozen h 9⟩
theorem put10 {W:World} {g:Nat} {t:TypeId} {a0 a1 a2 a3 a4 a5 a6 a7 a8 a9:Value} (h:W.heap[g]?=some (.cells #[a0,a1,a2,a3,a4,a5,a6,a7,a8,a9] t (0,0))) (u0 u1 u2 u3 u4 u5 u6 u7 u8 u9:Value) :
    ((((((((((W.setCell ⟨g,0,none⟩ u0).setCell ⟨g,1,none⟩ u1).setCell ⟨g,2,none⟩ u2).setCell ⟨g,3,none⟩ u3).setCell ⟨g,4,none⟩ u4).setCell ⟨g,5,none⟩ u5).setCell ⟨g,6,none⟩ u6).setCell ⟨g,7,none⟩ u7).setCell ⟨g,8,none⟩ u8).setCell ⟨g,9,none⟩ u9).heap[g]?=some (.cells #[u0,u1,u2,u3,u4,u5,u6,u7,u8,u9] t (0,0)):=by
  have h0:(W.setCell ⟨g,0,none⟩ u0).heap[g]?=some (.cells #[u0,a1,a2,a3,a4,a5,a6,a7,a8,a9] t (0,0)):=blk_put h 0 u0 rfl
  have h1:((W.setCell ⟨g,0,none⟩ u0).setCell ⟨g,1,none⟩ u1).heap[g]?=some (.cells #[u0,u1,a2,a3,a4,a5,a6,a7,a8,a9] t (0,0)):=blk_put h0 1 u1 rfl
  have h2:(((W.setCell ⟨g,0,none⟩ u0).setCell ⟨g,1,none⟩ u1).setCell ⟨g,2,none⟩ u2).heap[g]?=some (.cells #[u0,u1,u2,a3,a4,a5,a6,a7,a8,a9] t (0,0)):=blk_put h1 2 u2 rfl
  have h3:((((W.setCell ⟨g,0,none⟩ u0).setCell ⟨g,1,none⟩ u1).setCell ⟨g,2,none⟩ u2).setCell ⟨g,3,none⟩ u3).heap[g]?=some (.cells #[u0,u1,u2,u3,a4,a5,a6,a7,a8,a9] t (0,0)):=blk_put h2 3 u3 rfl
  have h4:(((((W.setCell ⟨g,0,none⟩ u0).setCell ⟨g,1,none⟩ u1).setCell ⟨g,2,none⟩ u2).setCell ⟨g,3,none⟩ u3).setCell ⟨g,4,none⟩ u4).heap[g]?=some (.cells #[u0,u1,u2,u3,u4,a5,a6,a7,a8,a9] t (0,0)):=blk_put h3 4 u4 rfl
  have h5:((((((W.setCell ⟨g,0,none⟩ u0).setCell ⟨g,1,none⟩ u1).setCell ⟨g,2,none⟩ u2).setCell ⟨g,3,none⟩ u3).setCell ⟨g,4,none⟩ u4).setCell ⟨g,5,none⟩ u5).heap[g]?=some (.cells #[u0,u1,u2,u3,u4,u5,a6,a7,a8,a9] t (0,0)):=blk_put h4 5 u5 rfl
  have h6:(((((((W.setCell ⟨g,0,none⟩ u0).setCell ⟨g,1,none⟩ u1).setCell ⟨g,2,none⟩ u2).setCell ⟨g,3,none⟩ u3).setCell ⟨g,4,none⟩ u4).setCell ⟨g,5,none⟩ u5).setCell ⟨g,6,none⟩ u6).heap[g]?=some (.cells #[u0,u1,u2,u3,u4,u5,u6,a7,a8,a9] t (0,0)):=blk_put h5 6 u6 rfl
  have h7:((((((((W.setCell ⟨g,0,none⟩ u0).setCell ⟨g,1,none⟩ u1).setCell ⟨g,2,none⟩ u2).setCell ⟨g,3,none⟩ u3).setCell ⟨g,4,none⟩ u4).setCell ⟨g,5,none⟩ u5).setCell ⟨g,6,none⟩ u6).setCell ⟨g,7,none⟩ u7).heap[g]?=some (.cells #[u0,u1,u2,u3,u4,u5,u6,u7,a8,a9] t (0,0)):=blk_put h6 7 u7 rfl
  have h8:(((((((((W.setCell ⟨g,0,none⟩ u0).setCell ⟨g,1,none⟩ u1).setCell ⟨g,2,none⟩ u2).setCell ⟨g,3,none⟩ u3).setCell ⟨g,4,none⟩ u4).setCell ⟨g,5,none⟩ u5).setCell ⟨g,6,none⟩ u6).setCell ⟨g,7,none⟩ u7).setCell ⟨g,8,none⟩ u8).heap[g]?=some (.cells #[u0,u1,u2,u3,u4,u5,u6,u7,u8,a9] t (0,0)):=blk_put h7 8 u8 rfl
  have h9:((((((((((W.setCell ⟨g,0,none⟩ u0).setCell ⟨g,1,none⟩ u1).setCell ⟨g,2,none⟩ u2).setCell ⟨g,3,none⟩ u3).setCell ⟨g,4,none⟩ u4).setCell ⟨g,5,none⟩ u5).setCell ⟨g,6,none⟩ u6).setCell ⟨g,7,none⟩ u7).setCell ⟨g,8,none⟩ u8).setCell ⟨g,9,none⟩ u9).heap[g]?=some (.cells #[u0,u1,u2,u3,u4,u5,u6,u7,u8,u9] t (0,0)):=blk_put h8 9 u9 rfl
  exact h9
theorem store10_event {W : World} (hgd : o.guard = none) {t : TypeId} {p : Tmp} {v : Operand} (_ho : o.op = .store t (.tmp p) v) (hN : o.dst = none) {g : Nat} {a0 a1 a2 a3 a4 a5 a6 a7 a8 a9 : Value} (u0 u1 u2 u3 u4 u5 u6 u7 u8 u9 : Value)
    (bk:W.heap[g]?=some (.cells #[a0,a1,a2,a3,a4,a5,a6,a7,a8,a9] t (0,0)))
    (hrun:(execOp a.eval o).run P W=.ok .skip ((((((((((W.setCell ⟨g,0,none⟩ u0).setCell ⟨g,1,none⟩ u1).setCell ⟨g,2,none⟩ u2).setCell ⟨g,3,none⟩ u3).setCell ⟨g,4,none⟩ u4).setCell ⟨g,5,none⟩ u5).setCell ⟨g,6,none⟩ u6).setCell ⟨g,7,none⟩ u7).setCell ⟨g,8,none⟩ u8).setCell ⟨g,9,none⟩ u9))
    (h:∀ w',w'.heap[g]?=some (.cells #[u0,u1,u2,u3,u4,u5,u6,u7,u8,u9] t (0,0))→Chg (fun k=>k=g) W w'→wpList P ops Q rest a w'):wpList P ops Q (o :: rest) a W :=
  store_event hgd _ho hN hrun (fun w' e=>h w' (e ▸ put10 bk u0 u1 u2 u3 u4 u5 u6 u7 u8 u9) (e ▸ ((((((((((chg_at W g 0 u0).trans (chg_at _ g 1 u1)).trans (chg_at _ g 2 u2)).trans (chg_at _ g 3 u3)).trans (chg_at _ g 4 u4)).trans (chg_at _ g 5 u5)).trans (chg_at _ g 6 u6)).trans (chg_at _ g 7 u7)).trans (chg_at _ g 8 u8)).trans (chg_at _ g 9 u9))))
end
def OB (w:World) (b c:Nat) (v v':Value) (ms:List S61) (ns:List S124):Prop :=
  Kd.R k61 61 w b (fun k=>b≤k∧k<c) v ms∧Kd.R k124 124 w b (fun k=>b≤k∧k<c) v' ns
theorem OB.of {w:World} {b:Nat} {ok ok':Nat→Prop} {v v':Value} {ms:List S61} {ns:List S124} (h:Kd.R k61 61 w b ok v ms) (h':Kd.R k124 124 w b ok' v' ns):OB w b w.heap.size v v' ms ns :=
  ⟨Kd.R_mono (Kd.R_bound h) (fun k hk=>⟨hk.2.1,hk.2.2.1⟩),Kd.R_mono (Kd.R_bound h') (fun k hk=>⟨hk.2.1,hk.2.2.1⟩)⟩
theorem OB.below {w w1:World} {b c:Nat} {v v':Value} {ms:List S61} {ns:List S124} (h:OB w b c v v' ms ns) (hb:Below w.heap.size w w1):OB w1 b c v v' ms ns:=⟨Kd.R_below h.1 hb,Kd.R_below h.2 hb⟩
theorem OB.chg {S:Nat→Prop} {w w1:World} {b c:Nat} {v v':Value} {ms:List S61} {ns:List S124} (h:OB w b c v v' ms ns) (hc:Chg S w w1) (hs:∀ k,b≤k→k<c→k<w.heap.size→¬ S k):OB w1 b c v v' ms ns :=
  ⟨Kd.R_step h.1 (fun k ok hk=>hc.block k hk (hs k ok.1 ok.2 hk)),Kd.R_step h.2 (fun k ok hk=>hc.block k hk (hs k ok.1 ok.2 hk))⟩
def OR (w:World) (v v':Value) (ms:List S61) (ns:List S124):Prop:=∃ A4 n4 A9 n9,v=.slice A4 ms.length n4∧v'=.slice A9 ns.length n9∧Kd.C k61 w A4 ms.length ms∧ms.length≤n4∧Kd.C k124 w A9 ns.length ns∧ns.length≤n9
theorem OB.reads {w:World} {b c:Nat} {v v':Value} {ms:List S61} {ns:List S124} (h:OB w b c v v' ms ns):OR w v v' ms ns:=by
  obtain ⟨A4,n4,e4,l4,c4⟩:=Kd.R_reads h.1
  obtain ⟨A9,n9,e9,l9,c9⟩:=Kd.R_reads h.2
  exact ⟨A4,n4,A9,n9,e4,e9,c4,l4,c9,l9⟩
theorem OR.below {w w1:World} {v v':Value} {ms:List S61} {ns:List S124} (h:OR w v v' ms ns) (hb:Below w.heap.size w w1):OR w1 v v' ms ns:=by
  obtain ⟨A4,n4,A9,n9,e4,e9,c4,l4,c9,l9⟩:=h
  exact ⟨A4,n4,A9,n9,e4,e9,Kd.C_below c4 hb,l4,Kd.C_below c9 hb,l9⟩
theorem OR.slices {w:World} {A4 A9:Option Addr} {m4 n4 m9 n9:Nat} {ms:List S61} {ns:List S124} (h:OR w (.slice A4 m4 n4) (.slice A9 m9 n9) ms ns):m4=ms.length∧m9=ns.length∧Kd.C k61 w A4 ms.length ms∧ms.length≤n4∧Kd.C k124 w A9 ns.length ns∧ns.length≤n9:=by
  obtain ⟨B4,k4,B9,k9,e4,e9,c4,l4,c9,l9⟩:=h
  injection e4 with e1 e2 e3
  injection e9 with e5 e6 e7
  subst e1 e3 e5 e7
  exact ⟨e2,e6,c4,l4,c9,l9⟩
def OMade (w:World) (n t:ByteArray) (lo hi:Int) (ms:List S61) (p0 p1 p2 p3:Int) (ns:List S124) (e:Ending) (w':World):Prop :=
  ∃ (v v':Value) (b c:Nat),w.heap.size=b∧w'.heap.size=c∧e=.returned (.agg #[.string n,.string t,.int .i64 lo,.int .i64 hi,v,.int .i64 p0,.int .i64 p1,.int .i64 p2,.int .i64 p3,v'])∧OB w' b c v v' ms ns∧Below w.heap.size w w'
theorem toO_calls (o:S44) (h1:o.f4.length≤1048576) (h2:o.f6.length≤1048576) {w:World} {A4 A9:Option Addr} {n4 n9:Nat} (g4:Kd.C k113 w A4 o.f4.length o.f4) (l4:o.f4.length≤n4) (g9:Kd.C k116 w A9 o.f6.length o.f6) (l9:o.f6.length≤n9) :
    Calls Tryz.prog 19 #[.agg #[.string o.f0,.string o.f1,.int .i64 o.f2,.int .i64 o.f3,.slice A4 o.f4.length n4,.int .i64 o.f5.f0,.int .i64 o.f5.f1,.int .i64 o.f5.f2,.int .i64 o.f5.f3,.slice A9 o.f6.length n9]] w fun e w'=>OMade w o.f0 o.f1 o.f2 o.f3 (o.f4.map toM) o.f5.f0 o.f5.f1 o.f5.f2 o.f5.f3 (o.f6.map toN) e w':=by
  refine (laws_toOrder.calls (o.f4.length + o.f6.length + 1) o.f0 o.f1 o.f2 o.f3 A4 n4 o.f4 o.f5.f0 o.f5.f1 o.f5.f2 o.f5.f3 A9 n9 o.f6 _ _ _ _ _ _ _ _ _ _ w g4 l4 g9 l9 (toOrder_eq o h1 h2 _ (by omega) (by omega))).mono ?_
  rintro e w' ⟨v,v',rfl,h3,h4,hb⟩
  exact ⟨v,v',_,_,rfl,rfl,rfl,OB.of h3 h4,hb⟩
theorem szO_calls (o:S44) (g:OrderIn o) {w:World} {A4 A9:Option Addr} {n4 n9:Nat} (g4:Kd.C k113 w A4 o.f4.length o.f4) (l4:o.f4.length≤n4) (g9:Kd.C k116 w A9 o.f6.length o.f6) (l9:o.f6.length≤n9) :
    Calls Tryz.prog 17 #[.agg #[.string o.f0,.string o.f1,.int .i64 o.f2,.int .i64 o.f3,.slice A4 o.f4.length n4,.int .i64 o.f5.f0,.int .i64 o.f5.f1,.int .i64 o.f5.f2,.int .i64 o.f5.f3,.slice A9 o.f6.length n9],.int .i64 1048576] w fun e w'=>e=.returned (.int .i64 (szLeft (totOrder o) 1048576))∧Below w.heap.size w w' :=
  laws_szOrder.calls (o.f4.length + o.f6.length + 1) o.f0 o.f1 o.f2 o.f3 A4 n4 o.f4 o.f5.f0 o.f5.f1 o.f5.f2 o.f5.f3 A9 n9 o.f6 1048576 _ w g4 l4 g9 l9 (szOrder_eq o g 1048576 (by decide) (by decide) _ (by omega) (by omega))
theorem eqO_calls (n t:ByteArray) (lo hi:Int) (ms:List S61) (p0 p1 p2 p3:Int) (ns:List S124) (h1:ms.length≤1048576) (h2:ns.length≤1048576) {w:World} {A4 A9 B4 B9:Option Addr} {n4 n9 k4 k9:Nat} (h:OR w (.slice A4 ms.length n4) (.slice A9 ns.length n9) ms ns) (h':OR w (.slice B4 ms.length k4) (.slice B9 ns.length k9) ms ns) :
    Calls Tryz.prog 21 #[.agg #[.string n,.string t,.int .i64 lo,.int .i64 hi,.slice A4 ms.length n4,.int .i64 p0,.int .i64 p1,.int .i64 p2,.int .i64 p3,.slice A9 ns.length n9],.agg #[.string n,.string t,.int .i64 lo,.int .i64 hi,.slice B4 ms.length k4,.int .i64 p0,.int .i64 p1,.int .i64 p2,.int .i64 p3,.slice B9 ns.length k9]] w fun e w'=>e=.returned (.bool true)∧Below w.heap.size w w':=by
  obtain ⟨_,_,c4,l4,c9,l9⟩:=h.slices
  obtain ⟨_,_,d4,m4,d9,m9⟩:=h'.slices
  exact laws_eqOrder.calls (ms.length + ns.length + 1) n t lo hi A4 n4 ms p0 p1 p2 p3 A9 n9 ns n t lo hi B4 k4 ms p0 p1 p2 p3 B9 k9 ns true w c4 l4 c9 l9 d4 m4 d9 m9 (eqOrder_self n t lo hi ms p0 p1 p2 p3 ns h1 h2 _ (by omega) (by omega))
theorem markMS_ev:∀ (d:Nat) (l:List S61) (i:Nat) (x:Int),i + d=l.length→l.length≤1048576→1≤x→x≤1099511627776 + 3*i→∃ l' r,Ev (fun k=>laws_markMetricS.l0 k l x (i:Int)) (r,l')∧1≤r∧r≤1099511627776 + 3*l.length:=by
  intro d
  induction d with
  | zero =>
    intro l i x hi hl h1 h2
    refine ⟨l,x,Ev.step (f:=fun _=>some (x,l)) (fun k=>?_) (Ev.now _),h1,by omega⟩
    simp only [laws_markMetricS.l0]
    rw [if_neg (by omega)]
  | succ d ih =>
    intro l i x hi hl h1 h2
    obtain ⟨l',r,h,h3,h4⟩:=ih (((l.set i (⟨mt x,(rd_T61 l (i:Int)).f1,(rd_T61 l (i:Int)).f2⟩:S61)).set i (⟨(rd_T61 (l.set i (⟨mt x,(rd_T61 l (i:Int)).f1,(rd_T61 l (i:Int)).f2⟩:S61)) (i:Int)).f0,x + 1,(rd_T61 (l.set i (⟨mt x,(rd_T61 l (i:Int)).f1,(rd_T61 l (i:Int)).f2⟩:S61)) (i:Int)).f2⟩:S61)).set i (⟨(rd_T61 ((l.set i (⟨mt x,(rd_T61 l (i:Int)).f1,(rd_T61 l (i:Int)).f2⟩:S61)).set i (⟨(rd_T61 (l.set i (⟨mt x,(rd_T61 l (i:Int)).f1,(rd_T61 l (i:Int)).f2⟩:S61)) (i:Int)).f0,x + 1,(rd_T61 (l.set i (⟨mt x,(rd_T61 l (i:Int)).f1,(rd_T61 l (i:Int)).f2⟩:S61)) (i:Int)).f2⟩:S61)) (i:Int)).f0,(rd_T61 ((l.set i (⟨mt x,(rd_T61 l (i:Int)).f1,(rd_T61 l (i:Int)).f2⟩:S61)).set i (⟨(rd_T61 (l.set i (⟨mt x,(rd_T61 l (i:Int)).f1,(rd_T61 l (i:Int)).f2⟩:S61)) (i:Int)).f0,x + 1,(rd_T61 (l.set i (⟨mt x,(rd_T61 l (i:Int)).f1,(rd_T61 l (i:Int)).f2⟩:S61)) (i:Int)).f2⟩:S61)) (i:Int)).f1,x + 1 + 1⟩:S61)) (i + 1) (x + 1 + 1 + 1) (by simp;omega) (by simpa using hl) (by omega) (by omega)
    refine ⟨l',r,?_,h3,by simpa using h4⟩
    have h0:(i:Int).toNat=i:=by omega
    have e:Ev (fun k=>(laws_markText.f k x).bind fun t=>laws_markMetricS.l0 k (((l.set i (⟨t,(rd_T61 l (i:Int)).f1,(rd_T61 l (i:Int)).f2⟩:S61)).set i (⟨(rd_T61 (l.set i (⟨t,(rd_T61 l (i:Int)).f1,(rd_T61 l (i:Int)).f2⟩:S61)) (i:Int)).f0,x + 1,(rd_T61 (l.set i (⟨t,(rd_T61 l (i:Int)).f1,(rd_T61 l (i:Int)).f2⟩:S61)) (i:Int)).f2⟩:S61)).set i (⟨(rd_T61 ((l.set i (⟨t,(rd_T61 l (i:Int)).f1,(rd_T61 l (i:Int)).f2⟩:S61)).set i (⟨(rd_T61 (l.set i (⟨t,(rd_T61 l (i:Int)).f1,(rd_T61 l (i:Int)).f2⟩:S61)) (i:Int)).f0,x + 1,(rd_T61 (l.set i (⟨t,(rd_T61 l (i:Int)).f1,(rd_T61 l (i:Int)).f2⟩:S61)) (i:Int)).f2⟩:S61)) (i:Int)).f0,(rd_T61 ((l.set i (⟨t,(rd_T61 l (i:Int)).f1,(rd_T61 l (i:Int)).f2⟩:S61)).set i (⟨(rd_T61 (l.set i (⟨t,(rd_T61 l (i:Int)).f1,(rd_T61 l (i:Int)).f2⟩:S61)) (i:Int)).f0,x + 1,(rd_T61 (l.set i (⟨t,(rd_T61 l (i:Int)).f1,(rd_T61 l (i:Int)).f2⟩:S61)) (i:Int)).f2⟩:S61)) (i:Int)).f1,x + 1 + 1⟩:S61)) (x + 1 + 1 + 1) ((i + 1:Nat):Int)) (r,l'):=Ev.bind (mt_ev (by omega)) h
    refine Ev.step (fun k=>?_) e
    simp only [laws_markMetricS.l0]
    rw [if_pos (by omega),w64 (i:=x + 1) (by omega) (by omega),w64 (i:=x + 1 + 1) (by omega) (by omega),w64 (i:=x + 1 + 1 + 1) (by omega) (by omega),wsucc (by omega),h0]
    congr 1<;>(funext t;rw [if_pos (by omega),Option.bind_some,Option.bind_some])
theorem markNS_ev:∀ (d:Nat) (l:List S124) (i:Nat) (x:Int),i + d=l.length→l.length≤1048576→1≤x→x≤2199023255552 + 2*i→∃ l' r,Ev (fun k=>laws_markNoteS.l0 k l x (i:Int)) (r,l')∧1≤r:=by
  intro d
  induction d with
  | zero =>
    intro l i x hi hl h1 h2
    refine ⟨l,x,Ev.step (f:=fun _=>some (x,l)) (fun k=>?_) (Ev.now _),h1⟩
    simp only [laws_markNoteS.l0]
    rw [if_neg (by omega)]
  | succ d ih =>
    intro l i x hi hl h1 h2
    have e0:∃ y1,y1=l.set i (⟨mt x,(rd_T124 l (i:Int)).f1⟩:S124):=⟨_,rfl⟩
    obtain ⟨y1,hy1⟩:=e0
    obtain ⟨l',r,h,h3⟩:=ih (y1.set i (⟨(rd_T124 y1 (i:Int)).f0,mt (x + 1)⟩:S124)) (i + 1) (x + 1 + 1) (by rw [hy1];simp;omega) (by rw [hy1];simpa using hl) (by omega) (by omega)
    refine ⟨l',r,?_,h3⟩
    have h0:(i:Int).toNat=i:=by omega
    subst hy1
    have e:Ev (fun k=>(laws_markText.f k x).bind fun t=>((laws_markText.f k (x + 1)).bind fun u=>laws_markNoteS.l0 k ((l.set i (⟨t,(rd_T124 l (i:Int)).f1⟩:S124)).set i (⟨(rd_T124 (l.set i (⟨t,(rd_T124 l (i:Int)).f1⟩:S124)) (i:Int)).f0,u⟩:S124)) (x + 1 + 1) ((i + 1:Nat):Int))) (r,l'):=Ev.bind (mt_ev (by omega)) (Ev.bind (mt_ev (by omega)) h)
    refine Ev.step (fun k=>?_) e
    simp only [laws_markNoteS.l0]
    rw [if_pos (by omega),w64 (i:=x + 1) (by omega) (by omega),w64 (i:=x + 1 + 1) (by omega) (by omega),wsucc (by omega),h0]
    congr 1<;>(funext t;rw [if_pos (by omega),Option.bind_some])
theorem markO_ev (n t:ByteArray) (lo hi:Int) (ms:List S61) (p0 p1 p2 p3:Int) (ns:List S124) (h1:ms.length≤1048576) (h2:ns.length≤1048576):∃ r ms' ns',Ev (fun k=>laws_markOrder.f k n t lo hi ms p0 p1 p2 p3 ns 1) (r,ms',ns')∧1≤r:=by
  obtain ⟨ms',x,hm,hx,hx2⟩:=markMS_ev ms.length ms 0 1 (by omega) h1 (by decide) (by decide)
  obtain ⟨ns',r,hn,hr⟩:=markNS_ev ns.length ns 0 x (by omega) h2 hx (by omega)
  refine ⟨r,ms',ns',?_,hr⟩
  unfold laws_markOrder.f laws_markMetricS.f laws_markNoteS.f
  exact Ev.bind hm (Ev.bind hn (Ev.now _))
theorem sum_mem {α:Type} (f:α→Nat) {l:List α} {z:α} (hz:z ∈ l):f z≤(l.map f).sum:=by
  induction l with
  | nil=>cases hz
  | cons x xs ih =>
    rw [List.map_cons,List.sum_cons]
    rcases List.mem_cons.1 hz with rfl | h
    · omega
    · have:=ih h;omega
theorem small_ord (o:S44) (h:((totOrder o:Nat):Int)≤1048576):o.f0.size≤1048576∧o.f1.size≤1048576∧o.f4.length≤1048576∧(∀ z ∈ o.f4,z.f0.size≤1048576)∧o.f6.length≤1048576∧(∀ z ∈ o.f6,z.f0.size≤1048576∧z.f1.size≤1048576):=by
  unfold totOrder at h
  refine ⟨by omega,by omega,by omega,fun z hz=>?_,by omega,fun z hz=>?_⟩
  · have := sum_mem totMetric hz
    unfold totMetric at this
    unfold totMetric at h
    omega
  · have := sum_mem totNote hz
    unfold totNote at this
    unfold totNote at h
    omega
def cutW (w:World) (b:Nat):World:={ w with heap:=w.heap.extract 0 b }
theorem cutW_size (w:World) (b:Nat) (h:b≤w.heap.size):(cutW w b).heap.size=b:=by simp [cutW];omega
theorem cutW_below (w:World) (b:Nat) (h:b≤w.heap.size):Below b (cutW w b) w:=by
  refine ⟨rfl,rfl,rfl,by rw [cutW_size w b h];exact h,fun k hk=>?_⟩
  simp [cutW,Array.getElem?_extract]
  omega
theorem markO_calls (n t:ByteArray) (lo hi:Int) (ms:List S61) (p0 p1 p2 p3:Int) (ns:List S124) (h1:ms.length≤1048576) (h2:ns.length≤1048576) {w:World} {b c:Nat} {v v':Value} (h:OB w b c v v' ms ns) (hb:b≤w.heap.size) :
    Calls Tryz.prog 22 #[.agg #[.string n,.string t,.int .i64 lo,.int .i64 hi,v,.int .i64 p0,.int .i64 p1,.int .i64 p2,.int .i64 p3,v'],.int .i64 1] w fun e w'=>∃ r,1≤r∧e=.returned (.int .i64 r)∧Chg (fun k=>b≤k∧k<c ∨ w.heap.size≤k) w w':=by
  obtain ⟨r,ms',ns',hE,hr⟩:=markO_ev n t lo hi ms p0 p1 p2 p3 ns h1 h2
  obtain ⟨k,hk⟩:=hE.rounds
  have hB:=cutW_below w b hb
  have hz:=cutW_size w b hb
  refine (laws_markOrder.calls k n t lo hi (fun k=>b≤k∧k<c) v ms p0 p1 p2 p3 (fun k=>b≤k∧k<c) v' ns 1 _ _ _ (cutW w b) w (hz.symm ▸ hB) (hz.symm ▸ h.1) (hz.symm ▸ h.2) hk).mono ?_
  rintro e w' ⟨rfl,_,_,hB',hk'⟩
  exact ⟨r,hr,rfl,hB'.os,hB'.tape,hB'.output,hk'.1,fun k hk hs=>hk'.2 k hk (fun e=>hs (.inl (e.elim id id)))⟩
theorem ord_reps {n t:ByteArray} {lo hi:Int} {ms:List S61} {p0 p1 p2 p3:Int} {ns:List S124} {w:World} {A4 A9:Option Addr} {n4 n9:Nat} (h:OR w (.slice A4 ms.length n4) (.slice A9 ns.length n9) ms ns) :
    V.Reps (fun b _ => b < w.heap.size) [] w [.agg [.val (.string n), .val (.string t), .val (.int .i64 lo), .val (.int .i64 hi), .row (ms.map V.c61) .no, .val (.int .i64 p0), .val (.int .i64 p1), .val (.int .i64 p2), .val (.int .i64 p3), .row (ns.map V.c124) .no]]
      [.agg #[.string n,.string t,.int .i64 lo,.int .i64 hi,.slice A4 ms.length n4,.int .i64 p0,.int .i64 p1,.int .i64 p2,.int .i64 p3,.slice A9 ns.length n9]]:=by
  obtain ⟨_,_,c4,l4,c9,l9⟩:=h.slices
  exact V.reps_cons_mk (V.rep_agg_mk (V.reps_cons_mk (V.Rep.val _ rfl) (V.reps_cons_mk (V.Rep.val _ rfl) (V.reps_cons_mk (V.Rep.val _ rfl) (V.reps_cons_mk (V.Rep.val _ rfl) (V.reps_cons_mk (V.row_to [] (by decide) V.ka61.len V.ka61.fl (fun x _ cs h=>V.ka61.fwd [] h) c4 l4) (V.reps_cons_mk (V.Rep.val _ rfl) (V.reps_cons_mk (V.Rep.val _ rfl) (V.reps_cons_mk (V.Rep.val _ rfl) (V.reps_cons_mk (V.Rep.val _ rfl) (V.reps_cons_mk (V.row_to [] (by decide) V.ka124.len V.ka124.fl (fun x _ cs h=>V.ka124.fwd [] h) c9 l9) V.reps_nil_mk)))))))))) rfl) V.reps_nil_mk
theorem node_seen {w:World} {F:Nat→Nat→Prop} {gs:List (Option Nat)} {a b:Int} {s:ByteArray} {ks:List ByteArray} {kids:List S32} {v:Value} (h:V.Rep F gs w (.agg [.val (.int .i64 a),.val (.int .i64 b),.val (.string s),.row (ks.map V.cS) .no,.row (kids.map V.c32) .no]) v) :
    ∃ v3 v4,v=.agg #[.int .i64 a,.int .i64 b,.string s,v3,v4]∧Seen w v3 v4 ⟨a,b,s,ks,kids⟩:=by
  obtain ⟨ys,rfl,h0⟩:=V.rep_agg h
  obtain ⟨j0,w0_,rfl,f0,h1⟩:=V.reps_cons h0
  obtain ⟨j1,w1_,rfl,f1,h2⟩:=V.reps_cons h1
  obtain ⟨j2,w2_,rfl,f2,h3⟩:=V.reps_cons h2
  obtain ⟨j3,w3_,rfl,f3,h4⟩:=V.reps_cons h3
  obtain ⟨j4,w4_,rfl,f4,h5⟩:=V.reps_cons h4
  obtain rfl:=V.reps_nil h5
  obtain rfl:=(V.rep_val f0).1
  obtain rfl:=(V.rep_val f1).1
  obtain rfl:=(V.rep_val f2).1
  obtain ⟨B3,m3,rfl,i3,k3⟩:=V.row_of V.ka_string.len (fun x _ cs h=>V.ka_string.of h) f3
  obtain ⟨B4,m4,rfl,i4,k4⟩:=V.row_of V.ka32.len (fun x _ cs h=>V.ka32.of h) f4
  exact ⟨_,_,rfl,B3,m3,B4,m4,rfl,rfl,k3,i3,k4,i4⟩
theorem midI_calls (n t:ByteArray) (lo hi:Int) (ms:List S61) (p0 p1 p2 p3:Int) (ns:List S124) (h1:n.size≤1048576) (h2:t.size≤1048576) (h3:ms.length≤1048576) (h4:∀ m ∈ ms,m.f0.size≤1048576) (h5:ns.length≤1048576) (h6:∀ m ∈ ns,m.f0.size≤1048576∧m.f1.size≤1048576) (w:World) (A4 A9:Option Addr) (n4 n9:Nat) (h:OR w (.slice A4 ms.length n4) (.slice A9 ns.length n9) ms ns) :
    Calls Tryz.prog 25 #[.agg #[.string n,.string t,.int .i64 lo,.int .i64 hi,.slice A4 ms.length n4,.int .i64 p0,.int .i64 p1,.int .i64 p2,.int .i64 p3,.slice A9 ns.length n9]] w fun e w'=>Made w (midV n t lo hi ms p0 p1 p2 p3 ns) e w':=by
  obtain ⟨k,hk⟩:=(impl_mid_ev n t lo hi ms p0 p1 p2 p3 ns h1 h2 h3 h4 h5 h6).rounds
  exact V.impl_MidTree_made hk (ord_reps h)
theorem midS_calls (n t:ByteArray) (lo hi:Int) (ms:List S61) (p0 p1 p2 p3:Int) (ns:List S124) (h1:n.size≤1048576) (h2:t.size≤1048576) (h3:ms.length≤1048576) (h4:∀ m ∈ ms,m.f0.size≤1048576) (h5:ns.length≤1048576) (h6:∀ m ∈ ns,m.f0.size≤1048576∧m.f1.size≤1048576) (w:World) (A4 A9:Option Addr) (n4 n9:Nat) (h:OR w (.slice A4 ms.length n4) (.slice A9 ns.length n9) ms ns) :
    Calls Tryz.prog 24 #[.agg #[.string n,.string t,.int .i64 lo,.int .i64 hi,.slice A4 ms.length n4,.int .i64 p0,.int .i64 p1,.int .i64 p2,.int .i64 p3,.slice A9 ns.length n9]] w fun e w'=>∃ v3 v4,e=.returned (.agg #[.int .i64 (midV n t lo hi ms p0 p1 p2 p3 ns).f0,.int .i64 (midV n t lo hi ms p0 p1 p2 p3 ns).f1,.string (midV n t lo hi ms p0 p1 p2 p3 ns).f2,v3,v4])∧Seen w' v3 v4 (midV n t lo hi ms p0 p1 p2 p3 ns)∧Below w.heap.size w w':=by
  obtain ⟨k,hk⟩:=(spec_mid_ev n t lo hi ms p0 p1 p2 p3 ns h1 h2 h3 h4 h5 h6).rounds
  refine (V.fn_calls (V.spec_MidTree_fn hk) (ord_reps h)).mono ?_
  rintro e w' ⟨v,F,gs,rfl,hr,hb⟩
  obtain ⟨v3,v4,rfl,hs⟩:=node_seen hr
  exact ⟨v3,v4,rfl,hs,hb⟩
end Go.Proofs.YtdlhidjphaaklaaGreat.H
end
section
namespace Go.Proofs.YtdlhidjphaaklaaGreat.O
open Go.ChangeShapes Go.WideShapes Go.ChangeAt Go.RowKit Go.Proofs.YtdlhidjphaaklaaGreat.P Go.Proofs.YtdlhidjphaaklaaGreatW.PrintWords
def Opens {α:Type} (P:Program) (d:Kd α) (T:TypeId) (good:α→Prop) (fuel:Nat):Prop :=
  ∀ {H:Type} (enc:TypeId × Value→H) (w:World) (base:Nat) (spare:Nat→Bool) (held:Bool) (cs:List Value) (x:DataW H × List MemPlace),
    DataW.trod enc P w base spare held fuel T cs=some x→∃ a:α,d.K w a cs∧good a
section
variable {P:Program} {T e:TypeId} {k:IntKind}
theorem opens_int (hT:P.underlying T=some (.int k)) (fuel:Nat):Opens P (Kd.int k) T (fun n=>(Lit.int k n).wf=true) fuel:=by
  intro H enc w base spare held cs x h
  cases fuel with
  | zero=>simp [DataW.trod] at h
  | succ f =>
    simp only [DataW.trod,hT] at h
    split at h <;> try (rename_i hh; cases hh; done)
    all_goals first
      | (rename_i k1 k2 n hh; injection hh with hh; injection hh with hh; subst hh; split at h
         · rename_i hc; obtain ⟨rfl,hw⟩:=hc; exact ⟨n,rfl,hw⟩
         · cases h)
      | cases h
      | (simp at *; done)
theorem opens_string (hT:P.underlying T=some .string) (fuel:Nat):Opens P Kd.string T (fun s=>s.size≤maxLen) fuel:=by
  intro H enc w base spare held cs x h
  cases fuel with
  | zero=>simp [DataW.trod] at h
  | succ f =>
    simp only [DataW.trod,hT] at h
    split at h <;> try (rename_i hh; cases hh; done)
    all_goals first
      | (split at h
         · rename_i hc; exact ⟨_,rfl,hc⟩
         · cases h)
      | cases h
      | (simp at *; done)
theorem mapM_at {α β:Type} {f:α→Option β} {l:List α} {r:List β} (h:l.mapM f=some r) (i:Nat) (x:α) (hx:l[i]?=some x):∃ y,f x=some y:=by
  have hg:=Go.mapM_some_get h i x hx
  have hl:=Go.mapM_some_length h
  have hi:i<r.length:=by rw [hl]; exact (List.getElem?_eq_some_iff.1 hx).1
  exact ⟨r[i],by rw [hg,List.getElem?_eq_getElem hi]⟩
theorem choose_list {α : Type} {p : Nat → α → Prop} : ∀ n : Nat, (∀ i, i < n → ∃ a, p i a) → ∃ xs : List α, xs.length = n ∧ ∀ i a, xs[i]? = some a → p i a
  | 0,_=>⟨[],rfl,fun i a h=>by simp at h⟩
  | n + 1,h=>by
    obtain ⟨xs,hl,hx⟩:=choose_list n (fun i hi=>h i (by omega))
    obtain ⟨a,ha⟩:=h n (by omega)
    refine ⟨xs ++ [a],by simp [hl],fun i b hb=>?_⟩
    rcases Nat.lt_or_ge i n with hi | hi
    · rw [List.getElem?_append_left (by omega)] at hb
      exact hx i b hb
    · have hl2 := (List.getElem?_eq_some_iff.1 hb).1
      rw [List.length_append,List.length_singleton] at hl2
      obtain rfl:i=n:=by omega
      rw [← hl,List.getElem?_concat_length] at hb
      obtain rfl:=Option.some.inj hb
      exact ha
theorem cells_at {w:World} {base:Nat} {a:Addr} {n:Nat} {cs:List Value} (h:w.cells? base a n=some cs):cs.length=n∧∀ i u,cs[i]?=some u→w.cell? (a.add i)=some u:=by
  unfold World.cells? at h
  split at h
  · have hl := Go.mapM_some_length h
    rw [List.length_range] at hl
    refine ⟨hl,fun i u hu=>?_⟩
    have hi:=(List.getElem?_eq_some_iff.1 hu).1
    have hg:=Go.mapM_some_get h i i (by rw [List.getElem?_range (by omega)])
    rw [hg,hu]
  · cases h
theorem add_add (a:Addr) (i j:Nat):(a.add i).add j=a.add (i + j):=by
  unfold Addr.add
  by_cases h1:i=0 <;> by_cases h2:j=0 <;> simp [h1,h2,Nat.add_assoc]
theorem opens_sliceN {α:Type} {d:Kd α} {good:α→Prop} (hT:P.underlying T=some (.slice e)) (hs:P.cellsOf e=d.sz) {f:Nat} (he:Opens P d e good f) :
    Opens P (Kd.slice e d) T (fun l=>l.length≤maxLen∧∀ y ∈ l,good y) (f + 1):=by
  intro H enc w base spare held cs x h
  simp only [DataW.trod,hT] at h
  split at h <;> try (rename_i hh; cases hh; done)
  all_goals first
    | (exact ⟨[],⟨none,0,rfl,Nat.le_refl _,⟨rfl,by simp,fun hp=>absurd hp (by simp)⟩⟩,Nat.zero_le _,fun y hy=>by simp at hy⟩)
    | (rename_i e' a len cap hh
       injection hh with hh
       injection hh with hh
       subst hh
       split at h
       · rename_i hc
         obtain ⟨hb,hlc,hcm⟩:=hc
         obtain ⟨elems,hel,_⟩:=Option.bind_eq_some_iff.1 h
         have key:∀ i,i<len→∃ y:α,good y∧∃ c:List Value,c.length=d.sz∧d.K w y c∧∀ j u,c[j]?=some u→w.cell? (a.add (i*d.sz + j))=some u:=by
           intro i hi
           obtain ⟨y,hy⟩:=mapM_at hel i i (by rw [List.getElem?_range hi])
           obtain ⟨c,hcc,ht⟩:=Option.bind_eq_some_iff.1 hy
           obtain ⟨z,hk,hg⟩:=he _ _ _ _ _ _ _ ht
           obtain ⟨hl,hcell⟩:=cells_at hcc
           refine ⟨z,hg,c,by rw [hl,hs],hk,fun j u hu=>?_⟩
           have:=hcell j u hu
           rw [add_add,hs] at this
           exact this
         obtain ⟨xs,hxl,hx⟩:=choose_list len key
         have hcm':len≤9223372036854775807:=by unfold maxLen at hcm; omega
         refine ⟨xs,⟨some a,cap,by rw [hxl],by rw [hxl]; exact hlc,⟨rfl,by rw [hxl]; exact hcm',fun _=>⟨a,rfl,fun j p hj=>?_⟩⟩⟩,by rw [hxl]; exact hcm',fun y hy=>?_⟩
         · obtain ⟨_, c, h1, h2, h3⟩ := hx j p hj
           exact ⟨c,h1,h2,h3⟩
         · obtain ⟨i, hi, rfl⟩ := List.getElem_of_mem hy
           exact (hx i _ (List.getElem?_eq_getElem hi)).1
       · cases h)
    | cases h
    | (simp at *; done)
theorem opens_slice {α:Type} {d:Kd α} {good:α→Prop} (hT:P.underlying T=some (.slice e)) (hs:P.cellsOf e=d.sz) (he:∀ f,Opens P d e good f) (fuel:Nat) :
    Opens P (Kd.slice e d) T (fun l=>l.length≤maxLen∧∀ y ∈ l,good y) fuel:=by
  cases fuel with
  | zero=>intro H enc w base spare held cs x h; simp [DataW.trod] at h
  | succ f=>exact opens_sliceN hT hs (he f)
theorem trod_struct {fs : Array Field} (hT : P.underlying T = some (.struct fs)) {H : Type} {enc : TypeId × Value → H} {w : World} {base : Nat} {spare : Nat → Bool} {held : Bool} {f : Nat} {cs : List Value} {x : DataW H × List MemPlace}
    (h:DataW.trod enc P w base spare held (f + 1) T cs=some x):cs.length=P.cellsOf T∧∃ xs,fs.toList.mapM (fun z=>DataW.trod enc P w base spare held f z.type ((cs.drop z.offset).take (P.cellsOf z.type)))=some xs:=by
  simp only [DataW.trod,hT] at h
  split at h
  · rename_i hl
    obtain ⟨xs,hxs,_⟩:=Option.map_eq_some_iff.1 h
    exact ⟨hl,xs,hxs⟩
  · cases h
end
theorem list_2 {α:Type} {l:List α} (h:l.length=2):∃ a b,l=[a,b]:=by
  match l,h with
  | [a,b],_=>exact ⟨a,b,rfl⟩
theorem list_3 {α:Type} {l:List α} (h:l.length=3):∃ a b c,l=[a,b,c]:=by
  match l,h with
  | [a,b,c],_=>exact ⟨a,b,c,rfl⟩
theorem list_4 {α:Type} {l:List α} (h:l.length=4):∃ a b c d,l=[a,b,c,d]:=by
  match l,h with
  | [a,b,c,d],_=>exact ⟨a,b,c,d,rfl⟩
theorem list_10 {α:Type} {l:List α} (h:l.length=10):∃ a b c d e f g h i j,l=[a,b,c,d,e,f,g,h,i,j]:=by
  match l,h with
  | [a,b,c,d,e,f,g,h,i,j],_=>exact ⟨a,b,c,d,e,f,g,h,i,j,rfl⟩
theorem arr_of {cs:Array Value} {l:List Value} (h:cs.toList=l):cs=l.toArray:=by subst h; rfl
def good113 (x:S113):Prop:=x.f0.size≤maxLen∧(Lit.int .i64 x.f1).wf=true∧(Lit.int .i64 x.f2).wf=true
theorem cells113:Tryz.prog.cellsOf 113=3:=by kernel_rfl
set_option maxRecDepth 100000 in
theorem opens113 : ∀ fuel, Opens Tryz.prog k113 113 good113 fuel
  | 0=>fun enc w base spare held cs x h=>by simp [DataW.trod] at h
  | f + 1=>fun enc w base spare held cs x h=>by
    obtain ⟨hl,xs,hm⟩:=trod_struct Tryz.underlying113 h
    rw [cells113] at hl
    obtain ⟨c0,c1,c2,rfl⟩:=list_3 hl
    have hm2:=hm
    obtain ⟨y0,hy0⟩:=mapM_at hm 0 _ rfl
    obtain ⟨a0,k0_,g0⟩:=(opens_string Tryz.underlying9) _ _ _ _ _ _ _ _ (show DataW.trod enc Tryz.prog w base spare held f 9 [c0]=some y0 from hy0)
    obtain ⟨y1,hy1⟩:=mapM_at hm 1 _ rfl
    obtain ⟨a1,k1_,g1⟩:=(opens_int Tryz.underlying3) _ _ _ _ _ _ _ _ (show DataW.trod enc Tryz.prog w base spare held f 3 [c1]=some y1 from hy1)
    obtain ⟨y2,hy2⟩:=mapM_at hm 2 _ rfl
    obtain ⟨a2,k2_,g2⟩:=(opens_int Tryz.underlying3) _ _ _ _ _ _ _ _ (show DataW.trod enc Tryz.prog w base spare held f 3 [c2]=some y2 from hy2)
    exact ⟨⟨a0,a1,a2⟩,⟨[c0],[c1,c2],rfl,k0_,⟨[c1],[c2],rfl,k1_,k2_⟩⟩,⟨g0,g1,g2⟩⟩
def good41 (x:S41):Prop:=(Lit.int .i64 x.f0).wf=true∧(Lit.int .i64 x.f1).wf=true∧(Lit.int .i64 x.f2).wf=true∧(Lit.int .i64 x.f3).wf=true
theorem cells41:Tryz.prog.cellsOf 41=4:=by kernel_rfl
set_option maxRecDepth 100000 in
theorem opens41 : ∀ fuel, Opens Tryz.prog k41 41 good41 fuel
  | 0=>fun enc w base spare held cs x h=>by simp [DataW.trod] at h
  | f + 1=>fun enc w base spare held cs x h=>by
    obtain ⟨hl,xs,hm⟩:=trod_struct Tryz.underlying41 h
    rw [cells41] at hl
    obtain ⟨c0,c1,c2,c3,rfl⟩:=list_4 hl
    have hm2:=hm
    obtain ⟨y0,hy0⟩:=mapM_at hm 0 _ rfl
    obtain ⟨a0,k0_,g0⟩:=(opens_int Tryz.underlying3) _ _ _ _ _ _ _ _ (show DataW.trod enc Tryz.prog w base spare held f 3 [c0]=some y0 from hy0)
    obtain ⟨y1,hy1⟩:=mapM_at hm 1 _ rfl
    obtain ⟨a1,k1_,g1⟩:=(opens_int Tryz.underlying3) _ _ _ _ _ _ _ _ (show DataW.trod enc Tryz.prog w base spare held f 3 [c1]=some y1 from hy1)
    obtain ⟨y2,hy2⟩:=mapM_at hm 2 _ rfl
    obtain ⟨a2,k2_,g2⟩:=(opens_int Tryz.underlying3) _ _ _ _ _ _ _ _ (show DataW.trod enc Tryz.prog w base spare held f 3 [c2]=some y2 from hy2)
    obtain ⟨y3,hy3⟩:=mapM_at hm 3 _ rfl
    obtain ⟨a3,k3_,g3⟩:=(opens_int Tryz.underlying3) _ _ _ _ _ _ _ _ (show DataW.trod enc Tryz.prog w base spare held f 3 [c3]=some y3 from hy3)
    exact ⟨⟨a0,a1,a2,a3⟩,⟨[c0],[c1,c2,c3],rfl,k0_,⟨[c1],[c2,c3],rfl,k1_,⟨[c2],[c3],rfl,k2_,k3_⟩⟩⟩,⟨g0,g1,g2,g3⟩⟩
def good116 (x:S116):Prop:=x.f0.size≤maxLen∧x.f1.size≤maxLen
theorem cells116:Tryz.prog.cellsOf 116=2:=by kernel_rfl
set_option maxRecDepth 100000 in
theorem opens116 : ∀ fuel, Opens Tryz.prog k116 116 good116 fuel
  | 0=>fun enc w base spare held cs x h=>by simp [DataW.trod] at h
  | f + 1=>fun enc w base spare held cs x h=>by
    obtain ⟨hl,xs,hm⟩:=trod_struct Tryz.underlying116 h
    rw [cells116] at hl
    obtain ⟨c0,c1,rfl⟩:=list_2 hl
    have hm2:=hm
    obtain ⟨y0,hy0⟩:=mapM_at hm 0 _ rfl
    obtain ⟨a0,k0_,g0⟩:=(opens_string Tryz.underlying9) _ _ _ _ _ _ _ _ (show DataW.trod enc Tryz.prog w base spare held f 9 [c0]=some y0 from hy0)
    obtain ⟨y1,hy1⟩:=mapM_at hm 1 _ rfl
    obtain ⟨a1,k1_,g1⟩:=(opens_string Tryz.underlying9) _ _ _ _ _ _ _ _ (show DataW.trod enc Tryz.prog w base spare held f 9 [c1]=some y1 from hy1)
    exact ⟨⟨a0,a1⟩,⟨[c0],[c1],rfl,k0_,k1_⟩,⟨g0,g1⟩⟩
def good44 (x:S44):Prop:=x.f0.size≤maxLen∧x.f1.size≤maxLen∧(Lit.int .i64 x.f2).wf=true∧(Lit.int .i64 x.f3).wf=true∧(x.f4.length≤maxLen∧∀ y ∈ x.f4,good113 y)∧good41 x.f5∧(x.f6.length≤maxLen∧∀ y ∈ x.f6,good116 y)
theorem cells44:Tryz.prog.cellsOf 44=10:=by kernel_rfl
set_option maxRecDepth 100000 in
theorem opens44 : ∀ fuel, Opens Tryz.prog k44 44 good44 fuel
  | 0=>fun enc w base spare held cs x h=>by simp [DataW.trod] at h
  | f + 1=>fun enc w base spare held cs x h=>by
    obtain ⟨hl,xs,hm⟩:=trod_struct Tryz.underlying44 h
    rw [cells44] at hl
    obtain ⟨c0,c1,c2,c3,c4,c5,c6,c7,c8,c9,rfl⟩:=list_10 hl
    have hm2:=hm
    obtain ⟨y0,hy0⟩:=mapM_at hm 0 _ rfl
    obtain ⟨a0,k0_,g0⟩:=(opens_string Tryz.underlying9) _ _ _ _ _ _ _ _ (show DataW.trod enc Tryz.prog w base spare held f 9 [c0]=some y0 from hy0)
    obtain ⟨y1,hy1⟩:=mapM_at hm 1 _ rfl
    obtain ⟨a1,k1_,g1⟩:=(opens_string Tryz.underlying9) _ _ _ _ _ _ _ _ (show DataW.trod enc Tryz.prog w base spare held f 9 [c1]=some y1 from hy1)
    obtain ⟨y2,hy2⟩:=mapM_at hm 2 _ rfl
    obtain ⟨a2,k2_,g2⟩:=(opens_int Tryz.underlying3) _ _ _ _ _ _ _ _ (show DataW.trod enc Tryz.prog w base spare held f 3 [c2]=some y2 from hy2)
    obtain ⟨y3,hy3⟩:=mapM_at hm 3 _ rfl
    obtain ⟨a3,k3_,g3⟩:=(opens_int Tryz.underlying3) _ _ _ _ _ _ _ _ (show DataW.trod enc Tryz.prog w base spare held f 3 [c3]=some y3 from hy3)
    obtain ⟨y4,hy4⟩:=mapM_at hm 4 _ rfl
    obtain ⟨a4,k4_,g4⟩:=(opens_slice Tryz.underlying39 (show Tryz.prog.cellsOf 113=(k113).sz from by kernel_rfl) opens113) _ _ _ _ _ _ _ _ (show DataW.trod enc Tryz.prog w base spare held f 39 [c4]=some y4 from hy4)
    obtain ⟨y5,hy5⟩:=mapM_at hm 5 _ rfl
    obtain ⟨a5,k5_,g5⟩:=opens41 _ _ _ _ _ _ _ _ (show DataW.trod enc Tryz.prog w base spare held f 41 [c5,c6,c7,c8]=some y5 from hy5)
    obtain ⟨y6,hy6⟩:=mapM_at hm 6 _ rfl
    obtain ⟨a6,k6_,g6⟩:=(opens_slice Tryz.underlying42 (show Tryz.prog.cellsOf 116=(k116).sz from by kernel_rfl) opens116) _ _ _ _ _ _ _ _ (show DataW.trod enc Tryz.prog w base spare held f 42 [c9]=some y6 from hy6)
    exact ⟨⟨a0,a1,a2,a3,a4,a5,a6⟩,⟨[c0],[c1,c2,c3,c4,c5,c6,c7,c8,c9],rfl,k0_,⟨[c1],[c2,c3,c4,c5,c6,c7,c8,c9],rfl,k1_,⟨[c2],[c3,c4,c5,c6,c7,c8,c9],rfl,k2_,⟨[c3],[c4,c5,c6,c7,c8,c9],rfl,k3_,⟨[c4],[c5,c6,c7,c8,c9],rfl,k4_,⟨[c5,c6,c7,c8],[c9],rfl,k5_,k6_⟩⟩⟩⟩⟩⟩,⟨g0,g1,g2,g3,g4,g5,g6⟩⟩
end Go.Proofs.YtdlhidjphaaklaaGreat.O
end
section
namespace Go.Proofs.YtdlhidjphaaklaaGreat.H
open Go.RowKit Go.Proofs.YtdlhidjphaaklaaGreat.P Go.Proofs.YtdlhidjphaaklaaGreatW.PrintWords Go.Proofs.YtdlhidjphaaklaaGreatW.PrintLast Go.Proofs.YtdlhidjphaaklaaGreat.M Go.Proofs.YtdlhidjphaaklaaGreat.O
theorem orderIn2 {o:S44} (g:good44 o):OrderIn o:=by
  obtain ⟨h1,h2,_,_,⟨h3,h4⟩,_,h5,h6⟩:=g
  exact ⟨h1,h2,h3,fun x hx=>(h4 x hx).1,h5,fun x hx=>h6 x hx⟩
set_option maxHeartbeats 16000000 in
set_option maxRecDepth 100000 in
theorem FnExactMidTree (x0:S44) (hg:good44 x0) {A0_4 A0_9:Option Addr} {c0_4 c0_9:Nat} (w:World) (g0_4:Kd.C k113 w A0_4 x0.f4.length x0.f4) (l0_4:x0.f4.length≤c0_4) (g0_9:Kd.C k116 w A0_9 x0.f6.length x0.f6) (l0_9:x0.f6.length≤c0_9) :
    Calls Tryz.prog 5 #[.agg #[.string x0.f0,.string x0.f1,.int .i64 x0.f2,.int .i64 x0.f3,.slice A0_4 x0.f4.length c0_4,.int .i64 x0.f5.f0,.int .i64 x0.f5.f1,.int .i64 x0.f5.f2,.int .i64 x0.f5.f3,.slice A0_9 x0.f6.length c0_9]] w fun e w'=>e=.returned (.bool true)∧Below w.heap.size w w':=by
  have hu:=Tryz.underlying32
  have hu2:=Tryz.underlying44
  have hu3:=Tryz.underlying50
  have hu4:=Tryz.underlying47
  have hu5:=Tryz.underlying41
  have hin:=orderIn2 hg
  have R4:=Lib.hid g0_4
  have R9:=Lib.hid g0_9
  have BL:=Lib.hid (Below.refl w.heap.size w)
  have T0:True:=trivial
  have SZ:=Lib.hid (fun (w:World) A4 A9 n4 n9 g4 l4 g9 l9=>szO_calls x0 hin (w:=w) (A4:=A4) (A9:=A9) (n4:=n4) (n9:=n9) g4 l4 g9 l9)
  clear g0_4 g0_9 hg
  by_cases hb:szLeft (totOrder x0) 1048576<0
  · have hbt : decide (szLeft (totOrder x0) 1048576 < 0) = true := decide_eq_true hb
    clear hin
    go_enter Tryz.func5,Tryz.ntmps5
    go_wp2_with (first
      | (clear T0;(with_reducible refine gate_dst (N:=1) rfl ?_);refine box_event rfl (N:=1) rfl (cs:=#[.string x0.f0,.string x0.f1,.int .i64 x0.f2,.int .i64 x0.f3,.slice A0_4 x0.f4.length c0_4,.int .i64 x0.f5.f0,.int .i64 x0.f5.f1,.int .i64 x0.f5.f2,.int .i64 x0.f5.f3,.slice A0_9 x0.f6.length c0_9]) (t:=44) (by first | (go_simp;done) | (go_simp;rfl)) ?_;intro g0 hg w0a bk hb;have GE0:=Lib.hid (Nat.le_trans BL.out.size (Nat.le_of_eq hg.symm));replace BL:=Lib.hid (BL.out.trans (hb.mono BL.out.size));have BK0:=Lib.hid bk;clear hg bk hb;obtain ⟨c00,c01,c02,c03,c04,c05,c06,c07,c08,c09⟩:=cells10 BK0.out;have T1:True:=trivial)
      | (clear T1;go_at_call 17;refine (SZ.out _ _ _ _ _ (Kd.C_below R4.out BL.out) l0_4 (Kd.C_below R9.out BL.out) l0_9).mono ?_;rintro e w1x ⟨rfl,hb⟩;replace BL:=Lib.hid (BL.out.trans (hb.mono BL.out.size));replace BK0:=Lib.hid (blk_below BK0.out hb);clear c00 c01 c02 c03 c04 c05 c06 c07 c08 c09;obtain ⟨c00,c01,c02,c03,c04,c05,c06,c07,c08,c09⟩:=cells10 BK0.out;clear hb;have T2:True:=trivial))
    go_ret
    exact ⟨rfl,BL.out⟩
  have hbt:decide (szLeft (totOrder x0) 1048576<0)=false:=decide_eq_false hb
  have hle:=szLeft_neg hb
  obtain ⟨q1,q2,q3,q4,q5,q6⟩:=small_ord x0 hle
  have TO:=Lib.hid (fun (w:World) A4 A9 n4 n9 g4 l4 g9 l9=>toO_calls x0 q3 q5 (w:=w) (A4:=A4) (A9:=A9) (n4:=n4) (n9:=n9) g4 l4 g9 l9)
  obtain ⟨MS,hMS⟩:∃ l,x0.f4.map toM=l:=⟨_,rfl⟩
  obtain ⟨NS,hNS⟩:∃ l,x0.f6.map toN=l:=⟨_,rfl⟩
  have p3:MS.length≤1048576:=by rw [← hMS,List.length_map];exact q3
  have p5:NS.length≤1048576:=by rw [← hNS,List.length_map];exact q5
  have p4:∀ m ∈ MS,m.f0.size≤1048576:=by
    intro m hm;rw [← hMS] at hm;obtain ⟨z,hz,rfl⟩:=List.mem_map.1 hm;exact q4 z hz
  have p6:∀ m ∈ NS,m.f0.size≤1048576∧m.f1.size≤1048576:=by
    intro m hm;rw [← hNS] at hm;obtain ⟨z,hz,rfl⟩:=List.mem_map.1 hm;exact q6 z hz
  unfold OMade at TO
  rw [hMS,hNS] at TO
  have GC:=Lib.hid (midI_calls x0.f0 x0.f1 x0.f2 x0.f3 MS x0.f5.f0 x0.f5.f1 x0.f5.f2 x0.f5.f3 NS q1 q2 p3 p4 p5 p6)
  have SG:=Lib.hid (midS_calls x0.f0 x0.f1 x0.f2 x0.f3 MS x0.f5.f0 x0.f5.f1 x0.f5.f2 x0.f5.f3 NS q1 q2 p3 p4 p5 p6)
  have MO:=Lib.hid (fun (w:World) b c v v' h hb=>markO_calls x0.f0 x0.f1 x0.f2 x0.f3 MS x0.f5.f0 x0.f5.f1 x0.f5.f2 x0.f5.f3 NS p3 p5 (w:=w) (b:=b) (c:=c) (v:=v) (v':=v') h hb)
  have EO:=Lib.hid (fun (w:World) A4 A9 B4 B9 n4 n9 k4 k9 h h'=>eqO_calls x0.f0 x0.f1 x0.f2 x0.f3 MS x0.f5.f0 x0.f5.f1 x0.f5.f2 x0.f5.f3 NS p3 p5 (w:=w) (A4:=A4) (A9:=A9) (B4:=B4) (B9:=B9) (n4:=n4) (n9:=n9) (k4:=k4) (k9:=k9) h h')
  have hcy:=cnt_midV x0.f0 x0.f1 x0.f2 x0.f3 MS x0.f5.f0 x0.f5.f1 x0.f5.f2 x0.f5.f3 NS p3 p5
  obtain ⟨y,hy⟩:∃ y,midV x0.f0 x0.f1 x0.f2 x0.f3 MS x0.f5.f0 x0.f5.f1 x0.f5.f2 x0.f5.f3 NS=y:=⟨_,rfl⟩
  unfold Made at GC
  rw [hy] at GC SG hcy
  obtain ⟨n,hn⟩:∃ n,cntTop y=n:=⟨_,rfl⟩
  have hn3:n≤19923000:=by omega
  have HN:=Lib.hid hn
  have HYB:Hid (cntTop y≤549755813880):=by show cntTop _≤_;omega
  have hn0:decide ((1:Int) + (n:Nat)<0)=false:=decide_eq_false (by omega)
  clear hb hle hn hy hcy hMS hNS hin q1 q2 q3 q4 q5 q6 p3 p4 p5 p6
  go_enter Tryz.func5,Tryz.ntmps5
  go_wp2_with (first
      | (clear T0;(with_reducible refine gate_dst (N:=1) rfl ?_);refine box_event rfl (N:=1) rfl (cs:=#[.string x0.f0,.string x0.f1,.int .i64 x0.f2,.int .i64 x0.f3,.slice A0_4 x0.f4.length c0_4,.int .i64 x0.f5.f0,.int .i64 x0.f5.f1,.int .i64 x0.f5.f2,.int .i64 x0.f5.f3,.slice A0_9 x0.f6.length c0_9]) (t:=44) (by first | (go_simp;done) | (go_simp;rfl)) ?_;intro g0 hg w0a bk hb;have GE0:=Lib.hid (Nat.le_trans BL.out.size (Nat.le_of_eq hg.symm));replace BL:=Lib.hid (BL.out.trans (hb.mono BL.out.size));have BK0:=Lib.hid bk;clear hg bk hb;obtain ⟨c00,c01,c02,c03,c04,c05,c06,c07,c08,c09⟩:=cells10 BK0.out;have T1:True:=trivial)
      | (clear T1;go_at_call 17;refine (SZ.out _ _ _ _ _ (Kd.C_below R4.out BL.out) l0_4 (Kd.C_below R9.out BL.out) l0_9).mono ?_;rintro e w1x ⟨rfl,hb⟩;replace BL:=Lib.hid (BL.out.trans (hb.mono BL.out.size));replace BK0:=Lib.hid (blk_below BK0.out hb);clear c00 c01 c02 c03 c04 c05 c06 c07 c08 c09;obtain ⟨c00,c01,c02,c03,c04,c05,c06,c07,c08,c09⟩:=cells10 BK0.out;clear hb;have T2:True:=trivial)
      | (clear T2;go_at_call 19;refine (TO.out _ _ _ _ _ (Kd.C_below R4.out BL.out) l0_4 (Kd.C_below R9.out BL.out) l0_9).mono ?_;rintro e wA ⟨vA,uA,bA,cA,hlo,hhi,rfl,ho,hb⟩;obtain ⟨A4A,n4A,A9A,n9A,rfl,rfl,_,_,_,_⟩:=ho.reads;replace BL:=Lib.hid (BL.out.trans (hb.mono BL.out.size));replace BK0:=Lib.hid (blk_below BK0.out hb);have SNA:=Lib.hid ho.reads;have BSA:=Lib.hid (Below.refl wA.heap.size wA);clear c00 c01 c02 c03 c04 c05 c06 c07 c08 c09;obtain ⟨c00,c01,c02,c03,c04,c05,c06,c07,c08,c09⟩:=cells10 BK0.out;clear hb ho hlo hhi;have T3:True:=trivial)
      | (clear T3;go_at_call 24;refine (SG.out _ _ _ _ _ (SNA.out.below BSA.out)).mono ?_;rintro e wS ⟨v3S,v4S,rfl,hs,hb⟩;have hs2:=hs;obtain ⟨E3S,q3S,E4S,q4S,rfl,rfl,_,_,_,_⟩:=hs2;clear SNA BSA;replace BL:=Lib.hid (BL.out.trans (hb.mono BL.out.size));replace BK0:=Lib.hid (blk_below BK0.out hb);have SNS:=Lib.hid hs;have BSS:=Lib.hid (Below.refl wS.heap.size wS);clear c00 c01 c02 c03 c04 c05 c06 c07 c08 c09;obtain ⟨c00,c01,c02,c03,c04,c05,c06,c07,c08,c09⟩:=cells10 BK0.out;clear hb hs;have T4:True:=trivial)
      | (clear T4;(with_reducible refine gate_dst (N:=4) rfl ?_);refine box_event rfl (N:=4) rfl (cs:=#[.int .i64 0,.int .i64 0,.string ⟨#[]⟩,.slice none 0 0,.slice none 0 0]) (t:=32) (by first | (go_simp;done) | (go_simp;rfl)) ?_;intro g6 hg w6a bk hb;have GE6:=Lib.hid (Nat.le_trans BL.out.size (Nat.le_of_eq hg.symm));have L06:=Lib.hid (Nat.lt_of_lt_of_le (blk_lt BK0.out) (Nat.le_of_eq hg.symm));have ES6:=Lib.hid (Nat.le_trans BSS.out.size (Nat.le_of_eq hg.symm));replace BL:=Lib.hid (BL.out.trans (hb.mono BL.out.size));replace BK0:=Lib.hid (blk_below BK0.out hb);replace BSS:=Lib.hid (BSS.out.trans (hb.mono BSS.out.size));have BK6:=Lib.hid bk;clear c00 c01 c02 c03 c04 c05 c06 c07 c08 c09;obtain ⟨c00,c01,c02,c03,c04,c05,c06,c07,c08,c09⟩:=cells10 BK0.out;obtain ⟨z0,z1,z2,z3,z4⟩:=cells5 BK6.out;obtain ⟨f0,f1,f2,f3,f4⟩:=free5 BK6.out;clear hg bk hb;have T5:True:=trivial)
      | (clear T5;(with_reducible refine gate_store (p:=4) rfl ?_);refine store5_event rfl rfl rfl (g:=g6) (.int .i64 y.f0) (.int .i64 y.f1) (.string y.f2) (.slice E3S y.f3.length q3S) (.slice E4S y.f4.length q4S) BK6.out (by first | (go_simp;done) | (go_simp;rfl)) ?_;intro w6b bk hc2;replace BL:=Lib.hid (below_chg BL.out BL.out.size hc2 (fun k e=>e ▸ GE6.out));replace BK0:=Lib.hid (blk_chg BK0.out hc2 (fun e=>Nat.ne_of_lt L06.out e));replace BSS:=Lib.hid (below_chg BSS.out BSS.out.size hc2 (fun k e=>e ▸ ES6.out));replace BK6:=Lib.hid bk;clear z0 z1 z2 z3 z4 f0 f1 f2 f3 f4 hc2 bk;clear c00 c01 c02 c03 c04 c05 c06 c07 c08 c09;obtain ⟨c00,c01,c02,c03,c04,c05,c06,c07,c08,c09⟩:=cells10 BK0.out;obtain ⟨c60,c61,c62,c63,c64⟩:=cells5 BK6.out;have T6:True:=trivial)
      | (clear T6;go_at_call 19;refine (TO.out _ _ _ _ _ (Kd.C_below R4.out BL.out) l0_4 (Kd.C_below R9.out BL.out) l0_9).mono ?_;rintro e wX ⟨vX,uX,bX,cX,hlo,hhi,rfl,ho,hb⟩;obtain ⟨A4X,n4X,A9X,n9X,rfl,rfl,_,_,_,_⟩:=ho.reads;have M0X:=Lib.hid (Nat.lt_of_lt_of_le (blk_lt BK0.out) (Nat.le_of_eq hlo));have M6X:=Lib.hid (Nat.lt_of_lt_of_le (blk_lt BK6.out) (Nat.le_of_eq hlo));have ESX:=Lib.hid (Nat.le_trans BSS.out.size (Nat.le_of_eq hlo));have MEX:=Lib.hid (Nat.le_trans BL.out.size (Nat.le_of_eq hlo));have HSX:=Lib.hid (Nat.le_trans (Nat.le_of_eq hlo.symm) (Nat.le_trans hb.size (Nat.le_of_eq hhi)));replace BL:=Lib.hid (BL.out.trans (hb.mono BL.out.size));replace BK0:=Lib.hid (blk_below BK0.out hb);replace BK6:=Lib.hid (blk_below BK6.out hb);replace BSS:=Lib.hid (BSS.out.trans (hb.mono BSS.out.size));have NTX:=Lib.hid ho;have CLX:=Lib.hid (Nat.le_of_eq hhi.symm);clear c00 c01 c02 c03 c04 c05 c06 c07 c08 c09;clear c60 c61 c62 c63 c64;obtain ⟨c00,c01,c02,c03,c04,c05,c06,c07,c08,c09⟩:=cells10 BK0.out;obtain ⟨c60,c61,c62,c63,c64⟩:=cells5 BK6.out;clear hb ho hlo hhi;have T7:True:=trivial)
      | (clear T7;(with_reducible refine gate_dst (N:=5) rfl ?_);refine box_event rfl (N:=5) rfl (cs:=#[.string ⟨#[]⟩,.string ⟨#[]⟩,.int .i64 0,.int .i64 0,.slice none 0 0,.int .i64 0,.int .i64 0,.int .i64 0,.int .i64 0,.slice none 0 0]) (t:=50) (by first | (go_simp;done) | (go_simp;rfl)) ?_;intro g8 hg w8a bk hb;have CX8:=Lib.hid (Nat.le_trans CLX.out (Nat.le_of_eq hg.symm));have GE8:=Lib.hid (Nat.le_trans BL.out.size (Nat.le_of_eq hg.symm));have L08:=Lib.hid (Nat.lt_of_lt_of_le (blk_lt BK0.out) (Nat.le_of_eq hg.symm));have L68:=Lib.hid (Nat.lt_of_lt_of_le (blk_lt BK6.out) (Nat.le_of_eq hg.symm));have ES8:=Lib.hid (Nat.le_trans BSS.out.size (Nat.le_of_eq hg.symm));replace BL:=Lib.hid (BL.out.trans (hb.mono BL.out.size));replace BK0:=Lib.hid (blk_below BK0.out hb);replace BK6:=Lib.hid (blk_below BK6.out hb);replace BSS:=Lib.hid (BSS.out.trans (hb.mono BSS.out.size));replace NTX:=Lib.hid (OB.below NTX.out hb);replace CLX:=Lib.hid (Nat.le_trans CLX.out hb.size);have BK8:=Lib.hid bk;clear c00 c01 c02 c03 c04 c05 c06 c07 c08 c09;clear c60 c61 c62 c63 c64;obtain ⟨c00,c01,c02,c03,c04,c05,c06,c07,c08,c09⟩:=cells10 BK0.out;obtain ⟨c60,c61,c62,c63,c64⟩:=cells5 BK6.out;obtain ⟨z0,z1,z2,z3,z4,z5,z6,z7,z8,z9⟩:=cells10 BK8.out;obtain ⟨f0,f1,f2,f3,f4,f5,f6,f7,f8,f9⟩:=free10 BK8.out;clear hg bk hb;have T8:True:=trivial)
      | (clear T8;(with_reducible refine gate_store (p:=5) rfl ?_);refine store10_event rfl rfl rfl (g:=g8) (.string x0.f0) (.string x0.f1) (.int .i64 x0.f2) (.int .i64 x0.f3) (.slice A4X MS.length n4X) (.int .i64 x0.f5.f0) (.int .i64 x0.f5.f1) (.int .i64 x0.f5.f2) (.int .i64 x0.f5.f3) (.slice A9X NS.length n9X) BK8.out (by first | (go_simp;done) | (go_simp;rfl)) ?_;intro w8b bk hc2;replace BL:=Lib.hid (below_chg BL.out BL.out.size hc2 (fun k e=>e ▸ GE8.out));replace BK0:=Lib.hid (blk_chg BK0.out hc2 (fun e=>Nat.ne_of_lt L08.out e));replace BK6:=Lib.hid (blk_chg BK6.out hc2 (fun e=>Nat.ne_of_lt L68.out e));replace BSS:=Lib.hid (below_chg BSS.out BSS.out.size hc2 (fun k e=>e ▸ ES8.out));replace NTX:=Lib.hid (OB.chg NTX.out hc2 (fun k h1 h2 h3 e=>Nat.ne_of_lt (Nat.lt_of_lt_of_le h2 CX8.out) e));replace CLX:=Lib.hid (Nat.le_trans CLX.out hc2.size);replace BK8:=Lib.hid bk;clear z0 z1 z2 z3 z4 z5 z6 z7 z8 z9 f0 f1 f2 f3 f4 f5 f6 f7 f8 f9 hc2 bk;clear c00 c01 c02 c03 c04 c05 c06 c07 c08 c09;clear c60 c61 c62 c63 c64;obtain ⟨c00,c01,c02,c03,c04,c05,c06,c07,c08,c09⟩:=cells10 BK0.out;obtain ⟨c60,c61,c62,c63,c64⟩:=cells5 BK6.out;obtain ⟨c80,c81,c82,c83,c84,c85,c86,c87,c88,c89⟩:=cells10 BK8.out;have T9:True:=trivial)
      | (clear T9;go_at_call 25;refine (GC.out _ _ _ _ _ NTX.out.reads).mono ?_;rintro e wG ⟨v3G,v4G,gsG,rfl,ht,hf,hb⟩;have hs2:=Seen.of_top ht;obtain ⟨E3G,q3G,E4G,q4G,rfl,rfl,_,_,_,_⟩:=hs2;have GEG:=Lib.hid (fun k hk=>Nat.le_trans BL.out.size (hf k hk));have D0G:=Lib.hid (fun k hk=>Nat.lt_of_lt_of_le (blk_lt BK0.out) (hf k hk));have D6G:=Lib.hid (fun k hk=>Nat.lt_of_lt_of_le (blk_lt BK6.out) (hf k hk));have D8G:=Lib.hid (fun k hk=>Nat.lt_of_lt_of_le (blk_lt BK8.out) (hf k hk));have ESG:=Lib.hid (fun k hk=>Nat.le_trans BSS.out.size (hf k hk));have NXG:=Lib.hid (fun (k:Nat) (h1:bX≤k) (h2:k<cX) hk=>Nat.not_le.2 h2 (Nat.le_trans CLX.out (hf k hk)));replace BL:=Lib.hid (BL.out.trans (hb.mono BL.out.size));replace BK0:=Lib.hid (blk_below BK0.out hb);replace BK6:=Lib.hid (blk_below BK6.out hb);replace BK8:=Lib.hid (blk_below BK8.out hb);replace BSS:=Lib.hid (BSS.out.trans (hb.mono BSS.out.size));replace NTX:=Lib.hid (OB.below NTX.out hb);replace CLX:=Lib.hid (Nat.le_trans CLX.out hb.size);have TPG:=Lib.hid ht;clear c00 c01 c02 c03 c04 c05 c06 c07 c08 c09;clear c60 c61 c62 c63 c64;clear c80 c81 c82 c83 c84 c85 c86 c87 c88 c89;obtain ⟨c00,c01,c02,c03,c04,c05,c06,c07,c08,c09⟩:=cells10 BK0.out;obtain ⟨c60,c61,c62,c63,c64⟩:=cells5 BK6.out;obtain ⟨c80,c81,c82,c83,c84,c85,c86,c87,c88,c89⟩:=cells10 BK8.out;clear hb ht hf;have T10:True:=trivial)
      | (clear T10;(with_reducible refine gate_dst (N:=6) rfl ?_);refine box_event rfl (N:=6) rfl (cs:=#[.int .i64 0,.int .i64 0,.string ⟨#[]⟩,.slice none 0 0,.slice none 0 0]) (t:=32) (by first | (go_simp;done) | (go_simp;rfl)) ?_;intro g9 hg w9a bk hb;have CX9:=Lib.hid (Nat.le_trans CLX.out (Nat.le_of_eq hg.symm));have GE9:=Lib.hid (Nat.le_trans BL.out.size (Nat.le_of_eq hg.symm));have L09:=Lib.hid (Nat.lt_of_lt_of_le (blk_lt BK0.out) (Nat.le_of_eq hg.symm));have L69:=Lib.hid (Nat.lt_of_lt_of_le (blk_lt BK6.out) (Nat.le_of_eq hg.symm));have L89:=Lib.hid (Nat.lt_of_lt_of_le (blk_lt BK8.out) (Nat.le_of_eq hg.symm));have ES9:=Lib.hid (Nat.le_trans BSS.out.size (Nat.le_of_eq hg.symm));have UG9:=Lib.hid (fun k hk=>Nat.lt_of_lt_of_le (Top_lt TPG.out k hk) (Nat.le_of_eq hg.symm));replace BL:=Lib.hid (BL.out.trans (hb.mono BL.out.size));replace BK0:=Lib.hid (blk_below BK0.out hb);replace BK6:=Lib.hid (blk_below BK6.out hb);replace BK8:=Lib.hid (blk_below BK8.out hb);replace BSS:=Lib.hid (BSS.out.trans (hb.mono BSS.out.size));replace TPG:=Lib.hid (Top_below TPG.out hb);replace NTX:=Lib.hid (OB.below NTX.out hb);replace CLX:=Lib.hid (Nat.le_trans CLX.out hb.size);have BK9:=Lib.hid bk;clear c00 c01 c02 c03 c04 c05 c06 c07 c08 c09;clear c60 c61 c62 c63 c64;clear c80 c81 c82 c83 c84 c85 c86 c87 c88 c89;obtain ⟨c00,c01,c02,c03,c04,c05,c06,c07,c08,c09⟩:=cells10 BK0.out;obtain ⟨c60,c61,c62,c63,c64⟩:=cells5 BK6.out;obtain ⟨c80,c81,c82,c83,c84,c85,c86,c87,c88,c89⟩:=cells10 BK8.out;obtain ⟨z0,z1,z2,z3,z4⟩:=cells5 BK9.out;obtain ⟨f0,f1,f2,f3,f4⟩:=free5 BK9.out;clear hg bk hb;have T11:True:=trivial)
      | (clear T11;(with_reducible refine gate_store (p:=6) rfl ?_);refine store5_event rfl rfl rfl (g:=g9) (.int .i64 y.f0) (.int .i64 y.f1) (.string y.f2) (.slice E3G y.f3.length q3G) (.slice E4G y.f4.length q4G) BK9.out (by first | (go_simp;done) | (go_simp;rfl)) ?_;intro w9b bk hc2;replace BL:=Lib.hid (below_chg BL.out BL.out.size hc2 (fun k e=>e ▸ GE9.out));replace BK0:=Lib.hid (blk_chg BK0.out hc2 (fun e=>Nat.ne_of_lt L09.out e));replace BK6:=Lib.hid (blk_chg BK6.out hc2 (fun e=>Nat.ne_of_lt L69.out e));replace BK8:=Lib.hid (blk_chg BK8.out hc2 (fun e=>Nat.ne_of_lt L89.out e));replace BSS:=Lib.hid (below_chg BSS.out BSS.out.size hc2 (fun k e=>e ▸ ES9.out));replace TPG:=Lib.hid (Top_chg TPG.out hc2 (fun k hk e=>Nat.ne_of_lt (UG9.out k hk) e));replace NTX:=Lib.hid (OB.chg NTX.out hc2 (fun k h1 h2 h3 e=>Nat.ne_of_lt (Nat.lt_of_lt_of_le h2 CX9.out) e));replace CLX:=Lib.hid (Nat.le_trans CLX.out hc2.size);replace BK9:=Lib.hid bk;clear z0 z1 z2 z3 z4 f0 f1 f2 f3 f4 hc2 bk;clear c00 c01 c02 c03 c04 c05 c06 c07 c08 c09;clear c60 c61 c62 c63 c64;clear c80 c81 c82 c83 c84 c85 c86 c87 c88 c89;obtain ⟨c00,c01,c02,c03,c04,c05,c06,c07,c08,c09⟩:=cells10 BK0.out;obtain ⟨c60,c61,c62,c63,c64⟩:=cells5 BK6.out;obtain ⟨c80,c81,c82,c83,c84,c85,c86,c87,c88,c89⟩:=cells10 BK8.out;obtain ⟨c90,c91,c92,c93,c94⟩:=cells5 BK9.out;have T12:True:=trivial)
      | (clear T12;go_at_call 13;refine (eqN_calls y HYB.out (Seen.of_top TPG.out) (SNS.out.below BSS.out)).mono ?_;rintro e w12x ⟨rfl,hb⟩;replace BL:=Lib.hid (BL.out.trans (hb.mono BL.out.size));replace BK0:=Lib.hid (blk_below BK0.out hb);replace BK6:=Lib.hid (blk_below BK6.out hb);replace BK8:=Lib.hid (blk_below BK8.out hb);replace BK9:=Lib.hid (blk_below BK9.out hb);replace BSS:=Lib.hid (BSS.out.trans (hb.mono BSS.out.size));replace TPG:=Lib.hid (Top_below TPG.out hb);replace NTX:=Lib.hid (OB.below NTX.out hb);replace CLX:=Lib.hid (Nat.le_trans CLX.out hb.size);clear c00 c01 c02 c03 c04 c05 c06 c07 c08 c09;clear c60 c61 c62 c63 c64;clear c80 c81 c82 c83 c84 c85 c86 c87 c88 c89;clear c90 c91 c92 c93 c94;obtain ⟨c00,c01,c02,c03,c04,c05,c06,c07,c08,c09⟩:=cells10 BK0.out;obtain ⟨c60,c61,c62,c63,c64⟩:=cells5 BK6.out;obtain ⟨c80,c81,c82,c83,c84,c85,c86,c87,c88,c89⟩:=cells10 BK8.out;obtain ⟨c90,c91,c92,c93,c94⟩:=cells5 BK9.out;clear hb;have T13:True:=trivial))
  refine start_ (n:=5) (S:=fun W=>W.cell? ⟨g8,0,none⟩=some (.string x0.f0)∧W.cell? ⟨g8,1,none⟩=some (.string x0.f1)∧W.cell? ⟨g8,2,none⟩=some (.int .i64 x0.f2)∧W.cell? ⟨g8,3,none⟩=some (.int .i64 x0.f3)∧W.cell? ⟨g8,4,none⟩=some (.slice A4X MS.length n4X)∧W.cell? ⟨g8,5,none⟩=some (.int .i64 x0.f5.f0)∧W.cell? ⟨g8,6,none⟩=some (.int .i64 x0.f5.f1)∧W.cell? ⟨g8,7,none⟩=some (.int .i64 x0.f5.f2)∧W.cell? ⟨g8,8,none⟩=some (.int .i64 x0.f5.f3)∧W.cell? ⟨g8,9,none⟩=some (.slice A9X NS.length n9X)∧W.cell? ⟨g0,0,none⟩=some (.string x0.f0)∧W.cell? ⟨g0,1,none⟩=some (.string x0.f1)∧W.cell? ⟨g0,2,none⟩=some (.int .i64 x0.f2)∧W.cell? ⟨g0,3,none⟩=some (.int .i64 x0.f3)∧W.cell? ⟨g0,4,none⟩=some (.slice A0_4 x0.f4.length c0_4)∧W.cell? ⟨g0,5,none⟩=some (.int .i64 x0.f5.f0)∧W.cell? ⟨g0,6,none⟩=some (.int .i64 x0.f5.f1)∧W.cell? ⟨g0,7,none⟩=some (.int .i64 x0.f5.f2)∧W.cell? ⟨g0,8,none⟩=some (.int .i64 x0.f5.f3)∧W.cell? ⟨g0,9,none⟩=some (.slice A0_9 x0.f6.length c0_9)) (ds:=[]) #[false,false,false,false,false] (by kernel_rfl) rfl rfl ⟨c80,c81,c82,c83,c84,c85,c86,c87,c88,c89,c00,c01,c02,c03,c04,c05,c06,c07,c08,c09⟩ (fun hHeld=>?_)
  replace BL:=Lib.hid (BL.out.trans ((below_drew (Below.refl _ _)).mono BL.out.size));replace BK0:=Lib.hid (blk_below BK0.out (below_drew (Below.refl _ _)));replace BK6:=Lib.hid (blk_below BK6.out (below_drew (Below.refl _ _)));replace BK8:=Lib.hid (blk_below BK8.out (below_drew (Below.refl _ _)));replace BK9:=Lib.hid (blk_below BK9.out (below_drew (Below.refl _ _)));replace BSS:=Lib.hid (BSS.out.trans ((below_drew (Below.refl _ _)).mono BSS.out.size));replace TPG:=Lib.hid (Top_below TPG.out (below_drew (Below.refl _ _)));replace NTX:=Lib.hid (OB.below NTX.out (below_drew (Below.refl _ _)));replace CLX:=Lib.hid (Nat.le_trans CLX.out (below_drew (Below.refl 0 _)).size);clear c00 c01 c02 c03 c04 c05 c06 c07 c08 c09;clear c60 c61 c62 c63 c64;clear c80 c81 c82 c83 c84 c85 c86 c87 c88 c89;clear c90 c91 c92 c93 c94;obtain ⟨c00,c01,c02,c03,c04,c05,c06,c07,c08,c09⟩:=cells10 BK0.out;obtain ⟨c60,c61,c62,c63,c64⟩:=cells5 BK6.out;obtain ⟨c80,c81,c82,c83,c84,c85,c86,c87,c88,c89⟩:=cells10 BK8.out;obtain ⟨c90,c91,c92,c93,c94⟩:=cells5 BK9.out
  refine take_ (i:=0) (N:=some 27) (v:=_) (a':=_) (bs_ 5 1) rfl rfl (by kernel_rfl) (fun _ _ _ h=>h) (Or.inl ⟨by rfl,by rintro w' ⟨s80,s81,s82,s83,s84,s85,s86,s87,s88,s89,s00,s01,s02,s03,s04,s05,s06,s07,s08,s09⟩;go_simp;first | with_reducible rfl | rfl⟩) hHeld (by simp only [Act.put,List.setIfInBounds_toArray,List.set_cons_zero,List.set_cons_succ];rfl) ?_
  refine take_ (i:=1) (N:=some 28) (v:=_) (a':=_) (bs_ 5 3) rfl rfl (by kernel_rfl) (fun _ _ _ h=>h) (Or.inl ⟨by rfl,by rintro w' ⟨s80,s81,s82,s83,s84,s85,s86,s87,s88,s89,s00,s01,s02,s03,s04,s05,s06,s07,s08,s09⟩;go_simp;first | with_reducible rfl | rfl⟩) hHeld (by simp only [Act.put,List.setIfInBounds_toArray,List.set_cons_zero,List.set_cons_succ];rfl) ?_
  refine one_ (i:=2) (N:=some 29) (bs_ 5 7) rfl rfl (by kernel_rfl) (by decide) (fun K hK=>?_)
  refine goes_ Tryz.func19 (by kernel_rfl) rfl #[.agg #[.string x0.f0,.string x0.f1,.int .i64 x0.f2,.int .i64 x0.f3,.slice A0_4 x0.f4.length c0_4,.int .i64 x0.f5.f0,.int .i64 x0.f5.f1,.int .i64 x0.f5.f2,.int .i64 x0.f5.f3,.slice A0_9 x0.f6.length c0_9]] (by rfl) rfl rfl (by (try simp only [List.map_toArray,List.map_cons,List.map_nil]);first | done | rfl) ?_
  refine (TO.out _ _ _ _ _ (Kd.C_below R4.out BL.out) l0_4 (Kd.C_below R9.out BL.out) l0_9).mono ?_
  rintro e wB ⟨vB,uB,bB,cB,hlo,hhi,rfl,ho,hb⟩
  refine ⟨_,rfl,?_⟩
  obtain ⟨A4B,n4B,A9B,n9B,rfl,rfl,_,_,_,_⟩:=ho.reads;replace BL:=Lib.hid (BL.out.trans (hb.mono BL.out.size));replace BK0:=Lib.hid (blk_below BK0.out hb);replace BK6:=Lib.hid (blk_below BK6.out hb);replace BK8:=Lib.hid (blk_below BK8.out hb);replace BK9:=Lib.hid (blk_below BK9.out hb);replace BSS:=Lib.hid (BSS.out.trans (hb.mono BSS.out.size));replace TPG:=Lib.hid (Top_below TPG.out hb);replace NTX:=Lib.hid (OB.below NTX.out hb);replace CLX:=Lib.hid (Nat.le_trans CLX.out hb.size);have SNB:=Lib.hid ho.reads;have BSB:=Lib.hid (Below.refl wB.heap.size wB);clear c00 c01 c02 c03 c04 c05 c06 c07 c08 c09;clear c60 c61 c62 c63 c64;clear c80 c81 c82 c83 c84 c85 c86 c87 c88 c89;clear c90 c91 c92 c93 c94;obtain ⟨c00,c01,c02,c03,c04,c05,c06,c07,c08,c09⟩:=cells10 BK0.out;obtain ⟨c60,c61,c62,c63,c64⟩:=cells5 BK6.out;obtain ⟨c80,c81,c82,c83,c84,c85,c86,c87,c88,c89⟩:=cells10 BK8.out;obtain ⟨c90,c91,c92,c93,c94⟩:=cells5 BK9.out;clear hb ho hlo hhi
  refine hK.out _ _ ⟨c80,c81,c82,c83,c84,c85,c86,c87,c88,c89,c00,c01,c02,c03,c04,c05,c06,c07,c08,c09⟩ (fun hHeld=>?_)
  clear hK K
  refine norm_ (a':=?_) ?_ ?_
  rotate_left
  · show Act.put _ (some 29) _ = _
    simp only [Act.put,List.setIfInBounds_toArray,List.set_cons_zero,List.set_cons_succ]
    rfl
  refine one_ (i:=3) (N:=some 30) (bs_ 5 15) rfl rfl (by kernel_rfl) (by decide) (fun K hK=>?_)
  refine goes_ Tryz.func21 (by kernel_rfl) rfl #[.agg #[.string x0.f0,.string x0.f1,.int .i64 x0.f2,.int .i64 x0.f3,.slice A4X MS.length n4X,.int .i64 x0.f5.f0,.int .i64 x0.f5.f1,.int .i64 x0.f5.f2,.int .i64 x0.f5.f3,.slice A9X NS.length n9X],.agg #[.string x0.f0,.string x0.f1,.int .i64 x0.f2,.int .i64 x0.f3,.slice A4B MS.length n4B,.int .i64 x0.f5.f0,.int .i64 x0.f5.f1,.int .i64 x0.f5.f2,.int .i64 x0.f5.f3,.slice A9B NS.length n9B]] (by rfl) rfl rfl (by (try simp only [List.map_toArray,List.map_cons,List.map_nil]);first | done | rfl) ?_
  refine (EO.out _ _ _ _ _ _ _ _ _ NTX.out.reads (SNB.out.below BSB.out)).mono ?_
  rintro e wBe ⟨rfl,hb⟩
  refine ⟨_,rfl,?_⟩
  replace BL:=Lib.hid (BL.out.trans (hb.mono BL.out.size));replace BK0:=Lib.hid (blk_below BK0.out hb);replace BK6:=Lib.hid (blk_below BK6.out hb);replace BK8:=Lib.hid (blk_below BK8.out hb);replace BK9:=Lib.hid (blk_below BK9.out hb);replace BSS:=Lib.hid (BSS.out.trans (hb.mono BSS.out.size));replace TPG:=Lib.hid (Top_below TPG.out hb);replace NTX:=Lib.hid (OB.below NTX.out hb);replace CLX:=Lib.hid (Nat.le_trans CLX.out hb.size);clear SNB BSB;clear c00 c01 c02 c03 c04 c05 c06 c07 c08 c09;clear c60 c61 c62 c63 c64;clear c80 c81 c82 c83 c84 c85 c86 c87 c88 c89;clear c90 c91 c92 c93 c94;obtain ⟨c00,c01,c02,c03,c04,c05,c06,c07,c08,c09⟩:=cells10 BK0.out;obtain ⟨c60,c61,c62,c63,c64⟩:=cells5 BK6.out;obtain ⟨c80,c81,c82,c83,c84,c85,c86,c87,c88,c89⟩:=cells10 BK8.out;obtain ⟨c90,c91,c92,c93,c94⟩:=cells5 BK9.out;clear hb
  refine hK.out _ _ ⟨c80,c81,c82,c83,c84,c85,c86,c87,c88,c89,c00,c01,c02,c03,c04,c05,c06,c07,c08,c09⟩ (fun hHeld=>?_)
  clear hK K
  refine norm_ (a':=?_) ?_ ?_
  rotate_left
  · show Act.put _ (some 30) _ = _
    simp only [Act.put,List.setIfInBounds_toArray,List.set_cons_zero,List.set_cons_succ]
    rfl
  refine pure_ (i:=4) (N:=some 31) (v:=_) (a':=_) (bs_ 5 31) rfl rfl (by kernel_rfl) (fun _ _ _ h=>h) (Or.inl ⟨by rfl,by intro w';go_simp;first | with_reducible rfl | rfl⟩) (by simp only [Act.put,List.setIfInBounds_toArray,List.set_cons_zero,List.set_cons_succ];rfl) ?_
  refine done_ (by kernel_rfl) ?_
  all_goals (go_wp2_with (first
      | (clear T13;go_at_call 22;refine (MO.out _ _ _ _ _ NTX.out (Nat.le_trans HSX.out CLX.out)).mono ?_;rintro e w13m ⟨r0,hr0,rfl,hc2⟩;have hrn:decide (r0<0)=false:=decide_eq_false (by omega);replace BL:=Lib.hid (below_chg BL.out BL.out.size hc2 (fun k e=>e.elim (fun e=>Nat.le_trans MEX.out e.1) (fun e=>Nat.le_trans BL.out.size e)));replace BK0:=Lib.hid (blk_chg BK0.out hc2 (fun e=>e.elim (fun e=>Nat.not_le.2 M0X.out e.1) (fun e=>Nat.not_le.2 (blk_lt BK0.out) e)));replace BK6:=Lib.hid (blk_chg BK6.out hc2 (fun e=>e.elim (fun e=>Nat.not_le.2 M6X.out e.1) (fun e=>Nat.not_le.2 (blk_lt BK6.out) e)));replace BK8:=Lib.hid (blk_chg BK8.out hc2 (fun e=>e.elim (fun e=>Nat.not_lt.2 CX8.out e.2) (fun e=>Nat.not_le.2 (blk_lt BK8.out) e)));replace BK9:=Lib.hid (blk_chg BK9.out hc2 (fun e=>e.elim (fun e=>Nat.not_lt.2 CX9.out e.2) (fun e=>Nat.not_le.2 (blk_lt BK9.out) e)));replace BSS:=Lib.hid (below_chg BSS.out BSS.out.size hc2 (fun k e=>e.elim (fun e=>Nat.le_trans ESX.out e.1) (fun e=>Nat.le_trans BSS.out.size e)));replace TPG:=Lib.hid (Top_chg TPG.out hc2 (fun k hk e=>e.elim (fun e=>NXG.out k e.1 e.2 hk) (fun e=>Nat.not_le.2 (Top_lt TPG.out k hk) e)));clear NTX CLX hc2;clear c00 c01 c02 c03 c04 c05 c06 c07 c08 c09;clear c60 c61 c62 c63 c64;clear c80 c81 c82 c83 c84 c85 c86 c87 c88 c89;clear c90 c91 c92 c93 c94;obtain ⟨c00,c01,c02,c03,c04,c05,c06,c07,c08,c09⟩:=cells10 BK0.out;obtain ⟨c60,c61,c62,c63,c64⟩:=cells5 BK6.out;obtain ⟨c80,c81,c82,c83,c84,c85,c86,c87,c88,c89⟩:=cells10 BK8.out;obtain ⟨c90,c91,c92,c93,c94⟩:=cells5 BK9.out;have T14:True:=trivial)
      | (clear T14;go_at_call 13;refine (eqN_calls y HYB.out (Seen.of_top TPG.out) (SNS.out.below BSS.out)).mono ?_;rintro e w14x ⟨rfl,hb⟩;replace BL:=Lib.hid (BL.out.trans (hb.mono BL.out.size));replace BK0:=Lib.hid (blk_below BK0.out hb);replace BK6:=Lib.hid (blk_below BK6.out hb);replace BK8:=Lib.hid (blk_below BK8.out hb);replace BK9:=Lib.hid (blk_below BK9.out hb);replace BSS:=Lib.hid (BSS.out.trans (hb.mono BSS.out.size));replace TPG:=Lib.hid (Top_below TPG.out hb);clear c00 c01 c02 c03 c04 c05 c06 c07 c08 c09;clear c60 c61 c62 c63 c64;clear c80 c81 c82 c83 c84 c85 c86 c87 c88 c89;clear c90 c91 c92 c93 c94;obtain ⟨c00,c01,c02,c03,c04,c05,c06,c07,c08,c09⟩:=cells10 BK0.out;obtain ⟨c60,c61,c62,c63,c64⟩:=cells5 BK6.out;obtain ⟨c80,c81,c82,c83,c84,c85,c86,c87,c88,c89⟩:=cells10 BK8.out;obtain ⟨c90,c91,c92,c93,c94⟩:=cells5 BK9.out;clear hb;have T15:True:=trivial)
      | (clear T15;go_at_call 14;refine (markTop_calls y n HN.out TPG.out (by omega)).mono ?_;rintro e w15m ⟨xG,rfl,hcn,hmk,htp,hc2⟩;replace BL:=Lib.hid (below_chg BL.out BL.out.size hc2 (fun k e=>e.elim (GEG.out k) (fun e=>Nat.le_trans BL.out.size e)));replace BK0:=Lib.hid (blk_chg BK0.out hc2 (fun e=>e.elim (fun e=>Nat.lt_irrefl _ (D0G.out _ e)) (fun e=>Nat.not_le.2 (blk_lt BK0.out) e)));replace BK6:=Lib.hid (blk_chg BK6.out hc2 (fun e=>e.elim (fun e=>Nat.lt_irrefl _ (D6G.out _ e)) (fun e=>Nat.not_le.2 (blk_lt BK6.out) e)));replace BK8:=Lib.hid (blk_chg BK8.out hc2 (fun e=>e.elim (fun e=>Nat.lt_irrefl _ (D8G.out _ e)) (fun e=>Nat.not_le.2 (blk_lt BK8.out) e)));replace BK9:=Lib.hid (blk_chg BK9.out hc2 (fun e=>e.elim (fun e=>Nat.lt_irrefl _ (UG9.out _ e)) (fun e=>Nat.not_le.2 (blk_lt BK9.out) e)));replace BSS:=Lib.hid (below_chg BSS.out BSS.out.size hc2 (fun k e=>e.elim (ESG.out k) (fun e=>Nat.le_trans BSS.out.size e)));replace TPG:=Lib.hid htp;have MKG:=Lib.hid hmk;have CNG:=Lib.hid hcn;clear htp hc2 hmk hcn;clear c00 c01 c02 c03 c04 c05 c06 c07 c08 c09;clear c60 c61 c62 c63 c64;clear c80 c81 c82 c83 c84 c85 c86 c87 c88 c89;clear c90 c91 c92 c93 c94;obtain ⟨c00,c01,c02,c03,c04,c05,c06,c07,c08,c09⟩:=cells10 BK0.out;obtain ⟨c60,c61,c62,c63,c64⟩:=cells5 BK6.out;obtain ⟨c80,c81,c82,c83,c84,c85,c86,c87,c88,c89⟩:=cells10 BK8.out;obtain ⟨c90,c91,c92,c93,c94⟩:=cells5 BK9.out;have T16:True:=trivial)
      | (clear T16;go_at_call 23;refine (heldAny_calls _ _ _ xG n TPG.out MKG.out CNG.out (by omega)).mono ?_;rintro e w16x ⟨rfl,hb⟩;replace BL:=Lib.hid (BL.out.trans (hb.mono BL.out.size));replace BK0:=Lib.hid (blk_below BK0.out hb);replace BK6:=Lib.hid (blk_below BK6.out hb);replace BK8:=Lib.hid (blk_below BK8.out hb);replace BK9:=Lib.hid (blk_below BK9.out hb);replace BSS:=Lib.hid (BSS.out.trans (hb.mono BSS.out.size));replace TPG:=Lib.hid (Top_below TPG.out hb);clear c00 c01 c02 c03 c04 c05 c06 c07 c08 c09;clear c60 c61 c62 c63 c64;clear c80 c81 c82 c83 c84 c85 c86 c87 c88 c89;clear c90 c91 c92 c93 c94;obtain ⟨c00,c01,c02,c03,c04,c05,c06,c07,c08,c09⟩:=cells10 BK0.out;obtain ⟨c60,c61,c62,c63,c64⟩:=cells5 BK6.out;obtain ⟨c80,c81,c82,c83,c84,c85,c86,c87,c88,c89⟩:=cells10 BK8.out;obtain ⟨c90,c91,c92,c93,c94⟩:=cells5 BK9.out;clear hb;have T17:True:=trivial)
      | (clear T17;go_at_call 19;refine (TO.out _ _ _ _ _ (Kd.C_below R4.out BL.out) l0_4 (Kd.C_below R9.out BL.out) l0_9).mono ?_;rintro e wC ⟨vC,uC,bC,cC,hlo,hhi,rfl,ho,hb⟩;obtain ⟨A4C,n4C,A9C,n9C,rfl,rfl,_,_,_,_⟩:=ho.reads;replace BL:=Lib.hid (BL.out.trans (hb.mono BL.out.size));replace BK0:=Lib.hid (blk_below BK0.out hb);replace BK6:=Lib.hid (blk_below BK6.out hb);replace BK8:=Lib.hid (blk_below BK8.out hb);replace BK9:=Lib.hid (blk_below BK9.out hb);replace BSS:=Lib.hid (BSS.out.trans (hb.mono BSS.out.size));replace TPG:=Lib.hid (Top_below TPG.out hb);have SNC:=Lib.hid ho.reads;have BSC:=Lib.hid (Below.refl wC.heap.size wC);clear c00 c01 c02 c03 c04 c05 c06 c07 c08 c09;clear c60 c61 c62 c63 c64;clear c80 c81 c82 c83 c84 c85 c86 c87 c88 c89;clear c90 c91 c92 c93 c94;obtain ⟨c00,c01,c02,c03,c04,c05,c06,c07,c08,c09⟩:=cells10 BK0.out;obtain ⟨c60,c61,c62,c63,c64⟩:=cells5 BK6.out;obtain ⟨c80,c81,c82,c83,c84,c85,c86,c87,c88,c89⟩:=cells10 BK8.out;obtain ⟨c90,c91,c92,c93,c94⟩:=cells5 BK9.out;clear hb ho hlo hhi;have T18:True:=trivial)
      | (clear T18;go_at_call 25;refine (GC.out _ _ _ _ _ (SNC.out.below BSC.out)).mono ?_;rintro e wH ⟨v3H,v4H,gsH,rfl,ht,hf,hb⟩;have hs2:=Seen.of_top ht;obtain ⟨E3H,q3H,E4H,q4H,rfl,rfl,_,_,_,_⟩:=hs2;have GEH:=Lib.hid (fun k hk=>Nat.le_trans BL.out.size (hf k hk));have D0H:=Lib.hid (fun k hk=>Nat.lt_of_lt_of_le (blk_lt BK0.out) (hf k hk));have D6H:=Lib.hid (fun k hk=>Nat.lt_of_lt_of_le (blk_lt BK6.out) (hf k hk));have D8H:=Lib.hid (fun k hk=>Nat.lt_of_lt_of_le (blk_lt BK8.out) (hf k hk));have D9H:=Lib.hid (fun k hk=>Nat.lt_of_lt_of_le (blk_lt BK9.out) (hf k hk));have ESH:=Lib.hid (fun k hk=>Nat.le_trans BSS.out.size (hf k hk));have ECH:=Lib.hid (fun k hk=>Nat.le_trans BSC.out.size (hf k hk));have RGH:=Lib.hid (fun k hk j hj=>Nat.lt_of_lt_of_le (Top_lt TPG.out k hk) (hf j hj));replace BL:=Lib.hid (BL.out.trans (hb.mono BL.out.size));replace BK0:=Lib.hid (blk_below BK0.out hb);replace BK6:=Lib.hid (blk_below BK6.out hb);replace BK8:=Lib.hid (blk_below BK8.out hb);replace BK9:=Lib.hid (blk_below BK9.out hb);replace BSS:=Lib.hid (BSS.out.trans (hb.mono BSS.out.size));replace BSC:=Lib.hid (BSC.out.trans (hb.mono BSC.out.size));replace TPG:=Lib.hid (Top_below TPG.out hb);have TPH:=Lib.hid ht;clear c00 c01 c02 c03 c04 c05 c06 c07 c08 c09;clear c60 c61 c62 c63 c64;clear c80 c81 c82 c83 c84 c85 c86 c87 c88 c89;clear c90 c91 c92 c93 c94;obtain ⟨c00,c01,c02,c03,c04,c05,c06,c07,c08,c09⟩:=cells10 BK0.out;obtain ⟨c60,c61,c62,c63,c64⟩:=cells5 BK6.out;obtain ⟨c80,c81,c82,c83,c84,c85,c86,c87,c88,c89⟩:=cells10 BK8.out;obtain ⟨c90,c91,c92,c93,c94⟩:=cells5 BK9.out;clear hb ht hf SNC BSC;have T19:True:=trivial)
      | (clear T19;(with_reducible refine gate_dst (N:=10) rfl ?_);refine box_event rfl (N:=10) rfl (cs:=#[.int .i64 0,.int .i64 0,.string ⟨#[]⟩,.slice none 0 0,.slice none 0 0]) (t:=32) (by first | (go_simp;done) | (go_simp;rfl)) ?_;intro ge hg wea bk hb;have GEe:=Lib.hid (Nat.le_trans BL.out.size (Nat.le_of_eq hg.symm));have L0e:=Lib.hid (Nat.lt_of_lt_of_le (blk_lt BK0.out) (Nat.le_of_eq hg.symm));have L6e:=Lib.hid (Nat.lt_of_lt_of_le (blk_lt BK6.out) (Nat.le_of_eq hg.symm));have L8e:=Lib.hid (Nat.lt_of_lt_of_le (blk_lt BK8.out) (Nat.le_of_eq hg.symm));have L9e:=Lib.hid (Nat.lt_of_lt_of_le (blk_lt BK9.out) (Nat.le_of_eq hg.symm));have ESe:=Lib.hid (Nat.le_trans BSS.out.size (Nat.le_of_eq hg.symm));have UGe:=Lib.hid (fun k hk=>Nat.lt_of_lt_of_le (Top_lt TPG.out k hk) (Nat.le_of_eq hg.symm));have UHe:=Lib.hid (fun k hk=>Nat.lt_of_lt_of_le (Top_lt TPH.out k hk) (Nat.le_of_eq hg.symm));replace BL:=Lib.hid (BL.out.trans (hb.mono BL.out.size));replace BK0:=Lib.hid (blk_below BK0.out hb);replace BK6:=Lib.hid (blk_below BK6.out hb);replace BK8:=Lib.hid (blk_below BK8.out hb);replace BK9:=Lib.hid (blk_below BK9.out hb);replace BSS:=Lib.hid (BSS.out.trans (hb.mono BSS.out.size));replace TPG:=Lib.hid (Top_below TPG.out hb);replace TPH:=Lib.hid (Top_below TPH.out hb);have BKe:=Lib.hid bk;clear c00 c01 c02 c03 c04 c05 c06 c07 c08 c09;clear c60 c61 c62 c63 c64;clear c80 c81 c82 c83 c84 c85 c86 c87 c88 c89;clear c90 c91 c92 c93 c94;obtain ⟨c00,c01,c02,c03,c04,c05,c06,c07,c08,c09⟩:=cells10 BK0.out;obtain ⟨c60,c61,c62,c63,c64⟩:=cells5 BK6.out;obtain ⟨c80,c81,c82,c83,c84,c85,c86,c87,c88,c89⟩:=cells10 BK8.out;obtain ⟨c90,c91,c92,c93,c94⟩:=cells5 BK9.out;obtain ⟨z0,z1,z2,z3,z4⟩:=cells5 BKe.out;obtain ⟨f0,f1,f2,f3,f4⟩:=free5 BKe.out;clear hg bk hb;have T20:True:=trivial)
      | (clear T20;(with_reducible refine gate_store (p:=10) rfl ?_);refine store5_event rfl rfl rfl (g:=ge) (.int .i64 y.f0) (.int .i64 y.f1) (.string y.f2) (.slice E3H y.f3.length q3H) (.slice E4H y.f4.length q4H) BKe.out (by first | (go_simp;done) | (go_simp;rfl)) ?_;intro web bk hc2;replace BL:=Lib.hid (below_chg BL.out BL.out.size hc2 (fun k e=>e ▸ GEe.out));replace BK0:=Lib.hid (blk_chg BK0.out hc2 (fun e=>Nat.ne_of_lt L0e.out e));replace BK6:=Lib.hid (blk_chg BK6.out hc2 (fun e=>Nat.ne_of_lt L6e.out e));replace BK8:=Lib.hid (blk_chg BK8.out hc2 (fun e=>Nat.ne_of_lt L8e.out e));replace BK9:=Lib.hid (blk_chg BK9.out hc2 (fun e=>Nat.ne_of_lt L9e.out e));replace BSS:=Lib.hid (below_chg BSS.out BSS.out.size hc2 (fun k e=>e ▸ ESe.out));replace TPG:=Lib.hid (Top_chg TPG.out hc2 (fun k hk e=>Nat.ne_of_lt (UGe.out k hk) e));replace TPH:=Lib.hid (Top_chg TPH.out hc2 (fun k hk e=>Nat.ne_of_lt (UHe.out k hk) e));replace BKe:=Lib.hid bk;clear z0 z1 z2 z3 z4 f0 f1 f2 f3 f4 hc2 bk;clear c00 c01 c02 c03 c04 c05 c06 c07 c08 c09;clear c60 c61 c62 c63 c64;clear c80 c81 c82 c83 c84 c85 c86 c87 c88 c89;clear c90 c91 c92 c93 c94;obtain ⟨c00,c01,c02,c03,c04,c05,c06,c07,c08,c09⟩:=cells10 BK0.out;obtain ⟨c60,c61,c62,c63,c64⟩:=cells5 BK6.out;obtain ⟨c80,c81,c82,c83,c84,c85,c86,c87,c88,c89⟩:=cells10 BK8.out;obtain ⟨c90,c91,c92,c93,c94⟩:=cells5 BK9.out;obtain ⟨ce0,ce1,ce2,ce3,ce4⟩:=cells5 BKe.out;have T21:True:=trivial)
      | (clear T21;go_at_call 13;refine (eqN_calls y HYB.out (Seen.of_top TPH.out) (SNS.out.below BSS.out)).mono ?_;rintro e w21x ⟨rfl,hb⟩;replace BL:=Lib.hid (BL.out.trans (hb.mono BL.out.size));replace BK0:=Lib.hid (blk_below BK0.out hb);replace BK6:=Lib.hid (blk_below BK6.out hb);replace BK8:=Lib.hid (blk_below BK8.out hb);replace BK9:=Lib.hid (blk_below BK9.out hb);replace BKe:=Lib.hid (blk_below BKe.out hb);replace BSS:=Lib.hid (BSS.out.trans (hb.mono BSS.out.size));replace TPG:=Lib.hid (Top_below TPG.out hb);replace TPH:=Lib.hid (Top_below TPH.out hb);clear c00 c01 c02 c03 c04 c05 c06 c07 c08 c09;clear c60 c61 c62 c63 c64;clear c80 c81 c82 c83 c84 c85 c86 c87 c88 c89;clear c90 c91 c92 c93 c94;clear ce0 ce1 ce2 ce3 ce4;obtain ⟨c00,c01,c02,c03,c04,c05,c06,c07,c08,c09⟩:=cells10 BK0.out;obtain ⟨c60,c61,c62,c63,c64⟩:=cells5 BK6.out;obtain ⟨c80,c81,c82,c83,c84,c85,c86,c87,c88,c89⟩:=cells10 BK8.out;obtain ⟨c90,c91,c92,c93,c94⟩:=cells5 BK9.out;obtain ⟨ce0,ce1,ce2,ce3,ce4⟩:=cells5 BKe.out;clear hb;have T22:True:=trivial)
      | (clear T22;go_at_call 23;refine (heldAny_calls _ _ _ xG n TPG.out MKG.out CNG.out (by omega)).mono ?_;rintro e w22x ⟨rfl,hb⟩;replace BL:=Lib.hid (BL.out.trans (hb.mono BL.out.size));replace BK0:=Lib.hid (blk_below BK0.out hb);replace BK6:=Lib.hid (blk_below BK6.out hb);replace BK8:=Lib.hid (blk_below BK8.out hb);replace BK9:=Lib.hid (blk_below BK9.out hb);replace BKe:=Lib.hid (blk_below BKe.out hb);replace BSS:=Lib.hid (BSS.out.trans (hb.mono BSS.out.size));replace TPG:=Lib.hid (Top_below TPG.out hb);replace TPH:=Lib.hid (Top_below TPH.out hb);clear c00 c01 c02 c03 c04 c05 c06 c07 c08 c09;clear c60 c61 c62 c63 c64;clear c80 c81 c82 c83 c84 c85 c86 c87 c88 c89;clear c90 c91 c92 c93 c94;clear ce0 ce1 ce2 ce3 ce4;obtain ⟨c00,c01,c02,c03,c04,c05,c06,c07,c08,c09⟩:=cells10 BK0.out;obtain ⟨c60,c61,c62,c63,c64⟩:=cells5 BK6.out;obtain ⟨c80,c81,c82,c83,c84,c85,c86,c87,c88,c89⟩:=cells10 BK8.out;obtain ⟨c90,c91,c92,c93,c94⟩:=cells5 BK9.out;obtain ⟨ce0,ce1,ce2,ce3,ce4⟩:=cells5 BKe.out;clear hb;have T23:True:=trivial)))
  all_goals go_ret
  all_goals exact ⟨rfl,BL.out⟩
end Go.Proofs.YtdlhidjphaaklaaGreat.H
end
section
namespace Go.Proofs.YtdlhidjphaaklaaGreat.Facts
theorem f_laid:laidOutB Tryz.prog=true:=by kernel_rfl
theorem f_maps:mapsRowed Tryz.prog=true:=by kernel_rfl
theorem f_knobs:(Tryz.prog.stopKnobs == [])=true:=by kernel_rfl
theorem f_heard:Tryz.prog.stopsHeard=true:=by kernel_rfl
theorem f_may:Tryz.prog.mayEnter=true:=by kernel_rfl
theorem f_lifts:Tryz.prog.liftsFinal=false:=by kernel_rfl
theorem f_make:Tryz.prog.make=some Rows.fnExactFullTreeRow.make:=by kernel_rfl
end Go.Proofs.YtdlhidjphaaklaaGreat.Facts
end
