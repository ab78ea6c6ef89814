import Derived.Test.YtdlhidjphaaklaaP0
import Derived.Test.YtdlhidjphaaklaaP_spec_l3Right
namespace Go.Proofs.Ytdlhidjphaaklaa.P
open Go.RowKit Go.Proofs.YtdlhidjphaaklaaW.PrintWords Go.Proofs.YtdlhidjphaaklaaW.PrintLast Go.Proofs.YtdlhidjphaaklaaW.PrintMore
attribute [local go_sem] max2_int min2_int max_two min_two max_three min_three max_four min_four
set_option linter.unusedVariables false
set_option linter.unusedSimpArgs false
noncomputable section
mutual
def laws_toNode.f:Nat→Int→Int→ByteArray→List ByteArray→List (S25)→Option (Int × Int × ByteArray × List ByteArray × (List (S33)))
 |0,_,_,_,_,_=>none
 |k+1,a0_0,a0_1,a0_2,l0_3,l0_4=>(laws_toStringS.f k l0_3).bind fun t233=>((laws_toNodeS.f k l0_4).bind fun t236=>(some (a0_0,a0_1,a0_2,t233,t236)))
def laws_toNodeS.l0:Nat→List (S25)→List (S33)→Int→Option ((List (S33)))
 |0,_,_,_=>none
 |k+1,x0,x3,x4=>if x4<(x0.length:Int) then (if 0≤x4 then ((laws_toNode.f k ((rd_T25 x0 x4).f0) ((rd_T25 x0 x4).f1) ((rd_T25 x0 x4).f2) ((rd_T25 x0 x4).f3) ((rd_T25 x0 x4).f4)).bind fun bt243=>(if x4<(x3.length:Int) then (laws_toNodeS.l0 k x0 (x3.set (x4:Int).toNat (⟨bt243.1,bt243.2.1,bt243.2.2.1,bt243.2.2.2.1,bt243.2.2.2.2⟩:S33)) (wrap64 (x4+1))) else (none))) else (none)) else (some x3)
def laws_toNodeS.f:Nat→List (S25)→Option ((List (S33)))
 |0,_=>none
 |k+1,l0=>if 0≤(l0.length:Int) then (if ((l0.length:Int):Int).toNat≤3518437208883 then (laws_toNodeS.l0 k l0 (List.replicate ((l0.length:Int):Int).toNat z33) 0) else (none)) else (none)
end
theorem laws_toNode.mono_l:∀ k,(∀ y0 y1 y2 y3 y4,LeO (laws_toNode.f k y0 y1 y2 y3 y4) (laws_toNode.f (k+1) y0 y1 y2 y3 y4))∧(∀ y0 y1 y2,LeO (laws_toNodeS.l0 k y0 y1 y2) (laws_toNodeS.l0 (k+1) y0 y1 y2))∧(∀ y0,LeO (laws_toNodeS.f k y0) (laws_toNodeS.f (k+1) y0))
 |0=>⟨fun _ _ _ _ _ r h=>by simp [laws_toNode.f] at h,fun _ _ _ r h=>by simp [laws_toNodeS.l0] at h,fun _ r h=>by simp [laws_toNodeS.f] at h⟩
 |k+1=>by
  obtain ⟨ih0,ih1,ih2⟩:=laws_toNode.mono_l k
  refine ⟨?_,?_,?_⟩
  ·intro y0 y1 y2 y3 y4
   unfold laws_toNode.f
   repeat' first
   |(with_reducible exact ih0 _ _ _ _ _)
   |(with_reducible exact ih1 _ _ _)
   |(with_reducible exact ih2 _)
   |(with_reducible exact laws_toStringS.mono _ _)
   |(with_reducible exact LeO.refl _)
   |(with_reducible exact LeO.none _)
   |(with_reducible refine LeO.ite ?_ ?_)
   |(with_reducible refine LeO.bind ?_ (fun _=>?_))
   |exact ih0 _ _ _ _ _
   |exact ih1 _ _ _
   |exact ih2 _
   |exact laws_toStringS.mono _ _
   |exact LeO.none _
   |refine LeO.ite ?_ ?_
   |refine LeO.bind ?_ (fun _=>?_)
  ·intro y0 y1 y2
   unfold laws_toNodeS.l0
   repeat' first
   |(with_reducible exact ih0 _ _ _ _ _)
   |(with_reducible exact ih1 _ _ _)
   |(with_reducible exact ih2 _)
   |(with_reducible exact laws_toStringS.mono _ _)
   |(with_reducible exact LeO.refl _)
   |(with_reducible exact LeO.none _)
   |(with_reducible refine LeO.ite ?_ ?_)
   |(with_reducible refine LeO.bind ?_ (fun _=>?_))
   |exact ih0 _ _ _ _ _
   |exact ih1 _ _ _
   |exact ih2 _
   |exact laws_toStringS.mono _ _
   |exact LeO.none _
   |refine LeO.ite ?_ ?_
   |refine LeO.bind ?_ (fun _=>?_)
  ·intro y0
   unfold laws_toNodeS.f
   repeat' first
   |(with_reducible exact ih0 _ _ _ _ _)
   |(with_reducible exact ih1 _ _ _)
   |(with_reducible exact ih2 _)
   |(with_reducible exact laws_toStringS.mono _ _)
   |(with_reducible exact LeO.refl _)
   |(with_reducible exact LeO.none _)
   |(with_reducible refine LeO.ite ?_ ?_)
   |(with_reducible refine LeO.bind ?_ (fun _=>?_))
   |exact ih0 _ _ _ _ _
   |exact ih1 _ _ _
   |exact ih2 _
   |exact laws_toStringS.mono _ _
   |exact LeO.none _
   |refine LeO.ite ?_ ?_
   |refine LeO.bind ?_ (fun _=>?_)
theorem laws_toNode.mono:∀ a0 a1 a2 a3 a4 k,LeO (laws_toNode.f k a0 a1 a2 a3 a4) (laws_toNode.f (k+1) a0 a1 a2 a3 a4):=by
 intro a0 a1 a2 a3 a4 k
 obtain ⟨ih0,ih1,ih2⟩:=laws_toNode.mono_l k
 exact ih0 a0 a1 a2 a3 a4
theorem laws_toNodeS.mono:∀ a0 k,LeO (laws_toNodeS.f k a0) (laws_toNodeS.f (k+1) a0):=by
 intro a0 k
 obtain ⟨ih0,ih1,ih2⟩:=laws_toNode.mono_l k
 exact ih2 a0
set_option maxHeartbeats 8000000 in
set_option maxRecDepth 100000 in
theorem laws_toNode.calls_all (k:Nat):(∀ (a0_0:Int) (a0_1:Int) (a0_2:ByteArray) (A0_3:Option Addr) (c0_3:Nat) (l0_3:List ByteArray) (A0_4:Option Addr) (c0_4:Nat) (l0_4:List (S25)) (r1:Int) (r2:Int) (r3:ByteArray) (r4:List ByteArray) (r5:List (S33)) (w:World) (hr0_3:Kd.C Kd.string w A0_3 l0_3.length l0_3) (hc0_3:l0_3.length≤c0_3) (hr0_4:Kd.C k25 w A0_4 l0_4.length l0_4) (hc0_4:l0_4.length≤c0_4) (h:laws_toNode.f k a0_0 a0_1 a0_2 l0_3 l0_4=some (r1,r2,r3,r4,r5)),
  Calls Try.prog 7 #[.agg #[.int .i64 a0_0,.int .i64 a0_1,.string a0_2,.slice A0_3 l0_3.length c0_3,.slice A0_4 l0_4.length c0_4]] w fun e w'=>∃ v3_ v4_:Value,e=.returned (.agg #[.int .i64 r1,.int .i64 r2,.string r3,v3_,v4_])∧Kd.R Kd.string 9 w' w.heap.size (fun _=>True) v3_ r4∧Kd.R k33 33 w' w.heap.size (fun k_=>some k_ ≠ (v3_:Value).ownBlock) v4_ r5∧Below w.heap.size w w')∧(∀ (A0:Option Addr) (c0:Nat) (l0:List (S25)) (r:List (S33)) (w:World) (hr0:Kd.C k25 w A0 l0.length l0) (hc0:l0.length≤c0) (h:laws_toNodeS.f k l0=some r),
  Calls Try.prog 24 #[.slice A0 l0.length c0] w fun e w'=>∃ v0_:Value,e=.returned (v0_)∧Kd.R k33 33 w' w.heap.size (fun _=>True) v0_ r∧Below w.heap.size w w'):=by
 induction k using Nat.strongRecOn with
 |_ k ihall =>
 have ih_laws_toNode:=fun k' h'=>(ihall k' h').1
 have ih_laws_toNodeS:=fun k' h'=>(ihall k' h').2
 clear ihall
 refine ⟨?_,?_⟩
 ·skip
  intro a0_0 a0_1 a0_2 A0_3 c0_3 l0_3 A0_4 c0_4 l0_4 r1 r2 r3 r4 r5 w hr0_3 hc0_3 hr0_4 hc0_4 h
  cases k with
  |zero=>exact absurd h (by simp [laws_toNode.f])
  |succ k =>
  simp only [laws_toNode.f] at h
  have hu25:=Try.underlying25
  have hu33:=Try.underlying33
  have HR0_3:=Aside0.mk hr0_3
  have HC0_3:=Aside0.mk hc0_3
  clear hr0_3 hc0_3
  have HR0_4:=Aside0.mk hr0_4
  have HC0_4:=Aside0.mk hc0_4
  clear hr0_4 hc0_4
  have HB:=Aside0.mk (Below.refl w.heap.size w)
  have H:((laws_toStringS.f k l0_3).bind fun t233=>((laws_toNodeS.f k l0_4).bind fun t236=>(some (a0_0,a0_1,a0_2,t233,t236))))=some (r1,r2,r3,r4,r5):=h
  clear h
  replace H:=Option.bind_eq_some_iff.mp H
  obtain ⟨t233,A20,H⟩:=H
  replace H:((laws_toNodeS.f k l0_4).bind fun t236=>(some (a0_0,a0_1,a0_2,t233,t236)))=some (r1,r2,r3,r4,r5):=H
  have A2:=Aside0.mk A20
  clear A20
  replace H:=Option.bind_eq_some_iff.mp H
  obtain ⟨t236,A30,H⟩:=H
  replace H:(some (a0_0,a0_1,a0_2,t233,t236))=some (r1,r2,r3,r4,r5):=H
  have A3:=Aside0.mk A30
  clear A30
  simp only [Option.some.injEq,Prod.mk.injEq] at H
  obtain ⟨rfl,rfl,rfl,rfl,rfl⟩:=H
  go_enter Try.func7,Try.ntmps7
  go_wp2_with (first|((with_reducible refine gate_dst (N:=1) rfl ?_); refine box_event ?hg (N:=1) ?hd (cs:=#[.int .i64 a0_0,.int .i64 a0_1,.string a0_2,.slice A0_3 l0_3.length c0_3,.slice A0_4 l0_4.length c0_4]) (t:=25) ?hr ?_; (case hd=>rfl); (case hg=>rfl); (case hr=>first|(go_simp; done)|(go_simp; rfl)); intro gb230 hg w4 hbox hb; have n0_:=Aside0.mk (below_step (by repeat (first|(with_reducible first|exact HB.out|apply below_alloc|apply pw_below_drewN|apply below_drew1)|exact HB.out)) hb); have n1_:=Aside0.mk (hbox); have n2_:=Aside0.mk ((by rw [hg]; exact (below_size (by repeat (first|(with_reducible first|exact HB.out|apply below_alloc|apply pw_below_drewN|apply below_drew1)|exact HB.out))):w.heap.size≤gb230)); have n3_:=Aside0.mk ((by rw [hg]; exact (below_size (by repeat (first|(with_reducible first|exact HB.out|apply below_alloc|apply pw_below_drewN|apply below_drew1)|exact HB.out))):w.heap.size≤gb230)); clear HB; have HB:=n0_; have BK230:=n1_; have GW230:=n2_; have GE230:=n3_; clear n0_ n1_ n2_ n3_; clear hb hbox hg)|((with_reducible refine gate_dst (N:=2) rfl ?_); refine box_event ?hg (N:=2) ?hd (cs:=#[.int .i64 0,.int .i64 0,.string (⟨#[]⟩:ByteArray),.slice none 0 0,.slice none 0 0]) (t:=33) ?hr ?_; (case hd=>rfl); (case hg=>rfl); (case hr=>first|(go_simp; done)|(go_simp; rfl)); intro gb231 hg w5 hbox hb; have n0_:=Aside0.mk (blk_below (g:=gb230) (o:=.cells #[.int .i64 a0_0,.int .i64 a0_1,.string a0_2,.slice A0_3 l0_3.length c0_3,.slice A0_4 l0_4.length c0_4] 25 (0,0)) (by (with_reducible repeat (first|refine blk_drewN ?_ _|refine blk_drew ?_|refine blk_alloc ?_ _)); exact BK230.out) hb); have n1_:=Aside0.mk (below_step (by repeat (first|(with_reducible first|exact HB.out|apply below_alloc|apply pw_below_drewN|apply below_drew1|refine below_set ?_ GE230.out)|exact HB.out)) hb); have n2_:=Aside0.mk (hbox); have n3_:=Aside0.mk ((by rw [hg]; exact (below_size (by repeat (first|(with_reducible first|exact HB.out|apply below_alloc|apply pw_below_drewN|apply below_drew1|refine below_set ?_ GE230.out)|exact HB.out))):w.heap.size≤gb231)); have n4_:=Aside0.mk ((by rw [hg]; exact (below_size (by repeat (first|(with_reducible first|exact HB.out|apply below_alloc|apply pw_below_drewN|apply below_drew1|refine below_set ?_ GE230.out)|exact HB.out))):w.heap.size≤gb231)); have n5_:=Aside0.mk ((by rw [hg]; exact Nat.ne_of_lt (blk_lt (g:=gb230) (o:=.cells #[.int .i64 a0_0,.int .i64 a0_1,.string a0_2,.slice A0_3 l0_3.length c0_3,.slice A0_4 l0_4.length c0_4] 25 (0,0)) (by (with_reducible repeat (first|refine blk_drewN ?_ _|refine blk_drew ?_|refine blk_alloc ?_ _)); exact BK230.out)):gb230 ≠ gb231)); have n6_:=Aside0.mk ((by rw [hg]; exact Nat.ne_of_gt (blk_lt (g:=gb230) (o:=.cells #[.int .i64 a0_0,.int .i64 a0_1,.string a0_2,.slice A0_3 l0_3.length c0_3,.slice A0_4 l0_4.length c0_4] 25 (0,0)) (by (with_reducible repeat (first|refine blk_drewN ?_ _|refine blk_drew ?_|refine blk_alloc ?_ _)); exact BK230.out)):gb231 ≠ gb230)); clear BK230; clear HB; have BK230:=n0_; have HB:=n1_; have BK231:=n2_; have GW231:=n3_; have GE231:=n4_; have NB230_231:=n5_; have NB231_230:=n6_; clear n0_ n1_ n2_ n3_ n4_ n5_ n6_; clear hb hbox hg)|((with_reducible refine gate_dst (N:=3) rfl ?_); refine box_event ?hg (N:=3) ?hd (cs:=#[.int .i64 0,.int .i64 0,.string (⟨#[]⟩:ByteArray),.slice none 0 0,.slice none 0 0]) (t:=33) ?hr ?_; (case hd=>rfl); (case hg=>rfl); (case hr=>first|(go_simp; done)|(go_simp; rfl)); intro gb232 hg w6 hbox hb; have n0_:=Aside0.mk (blk_below (g:=gb230) (o:=.cells #[.int .i64 a0_0,.int .i64 a0_1,.string a0_2,.slice A0_3 l0_3.length c0_3,.slice A0_4 l0_4.length c0_4] 25 (0,0)) (by (with_reducible repeat (first|refine blk_drewN ?_ _|refine blk_drew ?_|refine blk_alloc ?_ _)); exact BK230.out) hb); have n1_:=Aside0.mk (blk_below (g:=gb231) (o:=.cells #[.int .i64 0,.int .i64 0,.string (⟨#[]⟩:ByteArray),.slice none 0 0,.slice none 0 0] 33 (0,0)) (by (with_reducible repeat (first|refine blk_drewN ?_ _|refine blk_drew ?_|refine blk_alloc ?_ _)); exact BK231.out) hb); have n2_:=Aside0.mk (below_step (by repeat (first|(with_reducible first|exact HB.out|apply below_alloc|apply pw_below_drewN|apply below_drew1|refine below_set ?_ GE230.out|refine below_set ?_ GE231.out)|exact HB.out)) hb); have n3_:=Aside0.mk (hbox); have n4_:=Aside0.mk ((by rw [hg]; exact (below_size (by repeat (first|(with_reducible first|exact HB.out|apply below_alloc|apply pw_below_drewN|apply below_drew1|refine below_set ?_ GE230.out|refine below_set ?_ GE231.out)|exact HB.out))):w.heap.size≤gb232)); have n5_:=Aside0.mk ((by rw [hg]; exact (below_size (by repeat (first|(with_reducible first|exact HB.out|apply below_alloc|apply pw_below_drewN|apply below_drew1|refine below_set ?_ GE230.out|refine below_set ?_ GE231.out)|exact HB.out))):w.heap.size≤gb232)); have n6_:=Aside0.mk ((by rw [hg]; exact Nat.ne_of_lt (blk_lt (g:=gb230) (o:=.cells #[.int .i64 a0_0,.int .i64 a0_1,.string a0_2,.slice A0_3 l0_3.length c0_3,.slice A0_4 l0_4.length c0_4] 25 (0,0)) (by (with_reducible repeat (first|refine blk_drewN ?_ _|refine blk_drew ?_|refine blk_alloc ?_ _)); exact BK230.out)):gb230 ≠ gb232)); have n7_:=Aside0.mk ((by rw [hg]; exact Nat.ne_of_gt (blk_lt (g:=gb230) (o:=.cells #[.int .i64 a0_0,.int .i64 a0_1,.string a0_2,.slice A0_3 l0_3.length c0_3,.slice A0_4 l0_4.length c0_4] 25 (0,0)) (by (with_reducible repeat (first|refine blk_drewN ?_ _|refine blk_drew ?_|refine blk_alloc ?_ _)); exact BK230.out)):gb232 ≠ gb230)); have n8_:=Aside0.mk ((by rw [hg]; exact Nat.ne_of_lt (blk_lt (g:=gb231) (o:=.cells #[.int .i64 0,.int .i64 0,.string (⟨#[]⟩:ByteArray),.slice none 0 0,.slice none 0 0] 33 (0,0)) (by (with_reducible repeat (first|refine blk_drewN ?_ _|refine blk_drew ?_|refine blk_alloc ?_ _)); exact BK231.out)):gb231 ≠ gb232)); have n9_:=Aside0.mk ((by rw [hg]; exact Nat.ne_of_gt (blk_lt (g:=gb231) (o:=.cells #[.int .i64 0,.int .i64 0,.string (⟨#[]⟩:ByteArray),.slice none 0 0,.slice none 0 0] 33 (0,0)) (by (with_reducible repeat (first|refine blk_drewN ?_ _|refine blk_drew ?_|refine blk_alloc ?_ _)); exact BK231.out)):gb232 ≠ gb231)); clear BK230; clear BK231; clear HB; have BK230:=n0_; have BK231:=n1_; have HB:=n2_; have BK232:=n3_; have GW232:=n4_; have GE232:=n5_; have NB230_232:=n6_; have NB232_230:=n7_; have NB231_232:=n8_; have NB232_231:=n9_; clear n0_ n1_ n2_ n3_ n4_ n5_ n6_ n7_ n8_ n9_; clear hb hbox hg; have hnb7:=NB230_231.out; have hnc7:=NB231_230.out; have hnb8:=NB230_232.out; have hnc8:=NB232_230.out; have hcz9_0:w6.cell? ⟨gb230,0,none⟩=some (.int .i64 a0_0):=(blk_cell BK230.out 0).trans rfl; have hcz9_1:w6.cell? ⟨gb230,1,none⟩=some (.int .i64 a0_1):=(blk_cell BK230.out 1).trans rfl; have hcz9_2:w6.cell? ⟨gb230,2,none⟩=some (.string a0_2):=(blk_cell BK230.out 2).trans rfl; have hcz9_3:w6.cell? ⟨gb230,3,none⟩=some (.slice A0_3 l0_3.length c0_3):=(blk_cell BK230.out 3).trans rfl; have hcz9_4:w6.cell? ⟨gb230,4,none⟩=some (.slice A0_4 l0_4.length c0_4):=(blk_cell BK230.out 4).trans rfl; have hfz9_0:=blk_frozen BK230.out 0; have hfz9_1:=blk_frozen BK230.out 1; have hfz9_2:=blk_frozen BK230.out 2; have hfz9_3:=blk_frozen BK230.out 3; have hfz9_4:=blk_frozen BK230.out 4; have hnb10:=NB232_231.out; have hnc10:=NB231_232.out; have hcz11_0:w6.cell? ⟨gb232,0,none⟩=some (.int .i64 0):=(blk_cell BK232.out 0).trans rfl; have hcz11_1:w6.cell? ⟨gb232,1,none⟩=some (.int .i64 0):=(blk_cell BK232.out 1).trans rfl; have hcz11_2:w6.cell? ⟨gb232,2,none⟩=some (.string (⟨#[]⟩:ByteArray)):=(blk_cell BK232.out 2).trans rfl; have hcz11_3:w6.cell? ⟨gb232,3,none⟩=some (.slice none 0 0):=(blk_cell BK232.out 3).trans rfl; have hcz11_4:w6.cell? ⟨gb232,4,none⟩=some (.slice none 0 0):=(blk_cell BK232.out 4).trans rfl; have hfz11_0:=blk_frozen BK232.out 0; have hfz11_1:=blk_frozen BK232.out 1; have hfz11_2:=blk_frozen BK232.out 2; have hfz11_3:=blk_frozen BK232.out 3; have hfz11_4:=blk_frozen BK232.out 4)|((with_reducible refine gate_callee (f:=23) rfl ?_); refine goesL_ (some 15) rfl rfl Try.func23 (by kernel_rfl) rfl #[.slice A0_3 l0_3.length c0_3] rfl (by (try simp only [List.map_toArray,List.map_cons,List.map_nil]); first|done|rfl|(simp only [List.length_drop,List.length_take]; rfl)) ?_; (with_reducible refine (laws_toStringS.calls k _ _ l0_3 t233 _ ?side1 ?side2 A2.out).mono ?_); (case side1=>exact Kd.C_below HR0_3.out (by repeat (first|(with_reducible first|exact HB.out|apply below_alloc|apply pw_below_drewN|apply below_drew1|refine below_set ?_ GE230.out|refine below_set ?_ GE231.out|refine below_set ?_ GE232.out)|exact HB.out))); (case side2=>exact HC0_3.out); rintro e w12 ⟨v234,rfl,ho0,hb⟩; refine ⟨_,rfl,?_⟩; have n0_:=Aside0.mk (Kd.R_lower ho0 (below_size (by repeat (first|(with_reducible first|exact HB.out|apply below_alloc|apply pw_below_drewN|apply below_drew1|refine below_set ?_ GE230.out|refine below_set ?_ GE231.out|refine below_set ?_ GE232.out)|exact HB.out)))); have n1_:=Aside0.mk (blk_below (g:=gb230) (o:=.cells #[.int .i64 a0_0,.int .i64 a0_1,.string a0_2,.slice A0_3 l0_3.length c0_3,.slice A0_4 l0_4.length c0_4] 25 (0,0)) (by (with_reducible repeat (first|refine blk_drewN ?_ _|refine blk_drew ?_|refine blk_alloc ?_ _)); refine blk_far ?_ NB230_232.out _; (with_reducible repeat (first|refine blk_drewN ?_ _|refine blk_drew ?_|refine blk_alloc ?_ _)); refine blk_far ?_ NB230_232.out _; (with_reducible repeat (first|refine blk_drewN ?_ _|refine blk_drew ?_|refine blk_alloc ?_ _)); refine blk_far ?_ NB230_232.out _; (with_reducible repeat (first|refine blk_drewN ?_ _|refine blk_drew ?_|refine blk_alloc ?_ _)); exact BK230.out) hb); have n2_:=Aside0.mk (blk_below (g:=gb231) (o:=.cells #[.int .i64 0,.int .i64 0,.string (⟨#[]⟩:ByteArray),.slice none 0 0,.slice none 0 0] 33 (0,0)) (by (with_reducible repeat (first|refine blk_drewN ?_ _|refine blk_drew ?_|refine blk_alloc ?_ _)); refine blk_far ?_ NB231_232.out _; (with_reducible repeat (first|refine blk_drewN ?_ _|refine blk_drew ?_|refine blk_alloc ?_ _)); refine blk_far ?_ NB231_232.out _; (with_reducible repeat (first|refine blk_drewN ?_ _|refine blk_drew ?_|refine blk_alloc ?_ _)); refine blk_far ?_ NB231_232.out _; (with_reducible repeat (first|refine blk_drewN ?_ _|refine blk_drew ?_|refine blk_alloc ?_ _)); exact BK231.out) hb); have n3_:=Aside0.mk (blk_below (g:=gb232) (o:=.cells #[.int .i64 a0_0,.int .i64 a0_1,.string a0_2,.slice none 0 0,.slice none 0 0] 33 (0,0)) (by (with_reducible repeat (first|refine blk_drewN ?_ _|refine blk_drew ?_|refine blk_alloc ?_ _)); refine blk_put (cs:=#[.int .i64 a0_0,.int .i64 a0_1,.string (⟨#[]⟩:ByteArray),.slice none 0 0,.slice none 0 0]) ?_ 2 _ rfl; (with_reducible repeat (first|refine blk_drewN ?_ _|refine blk_drew ?_|refine blk_alloc ?_ _)); refine blk_put (cs:=#[.int .i64 a0_0,.int .i64 0,.string (⟨#[]⟩:ByteArray),.slice none 0 0,.slice none 0 0]) ?_ 1 _ rfl; (with_reducible repeat (first|refine blk_drewN ?_ _|refine blk_drew ?_|refine blk_alloc ?_ _)); refine blk_put (cs:=#[.int .i64 0,.int .i64 0,.string (⟨#[]⟩:ByteArray),.slice none 0 0,.slice none 0 0]) ?_ 0 _ rfl; (with_reducible repeat (first|refine blk_drewN ?_ _|refine blk_drew ?_|refine blk_alloc ?_ _)); exact BK232.out) hb); have n4_:=Aside0.mk (below_step (by repeat (first|(with_reducible first|exact HB.out|apply below_alloc|apply pw_below_drewN|apply below_drew1|refine below_set ?_ GE230.out|refine below_set ?_ GE231.out|refine below_set ?_ GE232.out)|exact HB.out)) hb); clear BK230; clear BK231; clear BK232; clear HB; have HO235:=n0_; have BK230:=n1_; have BK231:=n2_; have BK232:=n3_; have HB:=n4_; clear n0_ n1_ n2_ n3_ n4_; (try clear hb); (try clear hb2); (try clear hk); (try clear hi); (try clear ho0); obtain ⟨Ao13,co13,eo13⟩:=Kd.R_slice HO235.out; subst eo13; have hcz14_0:w12.cell? ⟨gb232,0,none⟩=some (.int .i64 a0_0):=(blk_cell BK232.out 0).trans rfl; have hcz14_1:w12.cell? ⟨gb232,1,none⟩=some (.int .i64 a0_1):=(blk_cell BK232.out 1).trans rfl; have hcz14_2:w12.cell? ⟨gb232,2,none⟩=some (.string a0_2):=(blk_cell BK232.out 2).trans rfl; have hcz14_3:w12.cell? ⟨gb232,3,none⟩=some (.slice none 0 0):=(blk_cell BK232.out 3).trans rfl; have hcz14_4:w12.cell? ⟨gb232,4,none⟩=some (.slice none 0 0):=(blk_cell BK232.out 4).trans rfl; have hfz14_0:=blk_frozen BK232.out 0; have hfz14_1:=blk_frozen BK232.out 1; have hfz14_2:=blk_frozen BK232.out 2; have hfz14_3:=blk_frozen BK232.out 3; have hfz14_4:=blk_frozen BK232.out 4; have hcz15_0:w12.cell? ⟨gb230,0,none⟩=some (.int .i64 a0_0):=(blk_cell BK230.out 0).trans rfl; have hcz15_1:w12.cell? ⟨gb230,1,none⟩=some (.int .i64 a0_1):=(blk_cell BK230.out 1).trans rfl; have hcz15_2:w12.cell? ⟨gb230,2,none⟩=some (.string a0_2):=(blk_cell BK230.out 2).trans rfl; have hcz15_3:w12.cell? ⟨gb230,3,none⟩=some (.slice A0_3 l0_3.length c0_3):=(blk_cell BK230.out 3).trans rfl; have hcz15_4:w12.cell? ⟨gb230,4,none⟩=some (.slice A0_4 l0_4.length c0_4):=(blk_cell BK230.out 4).trans rfl; have hfz15_0:=blk_frozen BK230.out 0; have hfz15_1:=blk_frozen BK230.out 1; have hfz15_2:=blk_frozen BK230.out 2; have hfz15_3:=blk_frozen BK230.out 3; have hfz15_4:=blk_frozen BK230.out 4)|((with_reducible refine gate_callee (f:=24) rfl ?_); refine goesL_ (some 19) rfl rfl Try.func24 (by kernel_rfl) rfl #[.slice A0_4 l0_4.length c0_4] rfl (by (try simp only [List.map_toArray,List.map_cons,List.map_nil]); first|done|rfl|(simp only [List.length_drop,List.length_take]; rfl)) ?_; (with_reducible refine (ih_laws_toNodeS k (by omega) _ _ l0_4 t236 _ ?side1 ?side2 A3.out).mono ?_); (case side1=>exact Kd.C_below HR0_4.out (by repeat (first|(with_reducible first|exact HB.out|apply below_alloc|apply pw_below_drewN|apply below_drew1|refine below_set ?_ GE230.out|refine below_set ?_ GE231.out|refine below_set ?_ GE232.out)|exact HB.out))); (case side2=>exact HC0_4.out); rintro e w16 ⟨v237,rfl,ho0,hb⟩; refine ⟨_,rfl,?_⟩; have n0_:=Aside0.mk (Kd.R_below (by (with_reducible repeat (first|apply Kd.R_alloc|apply Kd.R_drewN|apply Kd.R_drew)); exact (Kd.R_mono (Kd.R_far (p:=⟨gb232,3,none⟩) (Kd.R_types HO235.out BK232.out (by decide)) (fun _ hk=>hk.2) (.slice Ao13 t233.length co13)) (fun _ h_=>h_.1))) hb); have n1_:=Aside0.mk (Kd.R_lower (Kd.R_newB (Kd.R_newB (Kd.R_new' ho0 (Kd.R_lt (by (with_reducible repeat (first|apply Kd.R_alloc|apply Kd.R_drewN|apply Kd.R_drew)); exact (Kd.R_mono (Kd.R_far (p:=⟨gb232,3,none⟩) (Kd.R_types HO235.out BK232.out (by decide)) (fun _ hk=>hk.2) (.slice Ao13 t233.length co13)) (fun _ h_=>h_.1))))) (g:=gb231) (o:=.cells #[.int .i64 0,.int .i64 0,.string (⟨#[]⟩:ByteArray),.slice none 0 0,.slice none 0 0] 33 (0,0)) (by (with_reducible repeat (first|refine blk_drewN ?_ _|refine blk_drew ?_|refine blk_alloc ?_ _)); refine blk_far ?_ NB231_232.out _; (with_reducible repeat (first|refine blk_drewN ?_ _|refine blk_drew ?_|refine blk_alloc ?_ _)); exact BK231.out)) (g:=gb232) (o:=.cells #[.int .i64 a0_0,.int .i64 a0_1,.string a0_2,.slice Ao13 t233.length co13,.slice none 0 0] 33 (0,0)) (by (with_reducible repeat (first|refine blk_drewN ?_ _|refine blk_drew ?_|refine blk_alloc ?_ _)); refine blk_put (cs:=#[.int .i64 a0_0,.int .i64 a0_1,.string a0_2,.slice none 0 0,.slice none 0 0]) ?_ 3 _ rfl; (with_reducible repeat (first|refine blk_drewN ?_ _|refine blk_drew ?_|refine blk_alloc ?_ _)); exact BK232.out)) (below_size (by repeat (first|(with_reducible first|exact HB.out|apply below_alloc|apply pw_below_drewN|apply below_drew1|refine below_set ?_ GE230.out|refine below_set ?_ GE231.out|refine below_set ?_ GE232.out)|exact HB.out)))); have n2_:=Aside0.mk (blk_below (g:=gb230) (o:=.cells #[.int .i64 a0_0,.int .i64 a0_1,.string a0_2,.slice A0_3 l0_3.length c0_3,.slice A0_4 l0_4.length c0_4] 25 (0,0)) (by (with_reducible repeat (first|refine blk_drewN ?_ _|refine blk_drew ?_|refine blk_alloc ?_ _)); refine blk_far ?_ NB230_232.out _; (with_reducible repeat (first|refine blk_drewN ?_ _|refine blk_drew ?_|refine blk_alloc ?_ _)); exact BK230.out) hb); have n3_:=Aside0.mk (blk_below (g:=gb231) (o:=.cells #[.int .i64 0,.int .i64 0,.string (⟨#[]⟩:ByteArray),.slice none 0 0,.slice none 0 0] 33 (0,0)) (by (with_reducible repeat (first|refine blk_drewN ?_ _|refine blk_drew ?_|refine blk_alloc ?_ _)); refine blk_far ?_ NB231_232.out _; (with_reducible repeat (first|refine blk_drewN ?_ _|refine blk_drew ?_|refine blk_alloc ?_ _)); exact BK231.out) hb); have n4_:=Aside0.mk (blk_below (g:=gb232) (o:=.cells #[.int .i64 a0_0,.int .i64 a0_1,.string a0_2,.slice Ao13 t233.length co13,.slice none 0 0] 33 (0,0)) (by (with_reducible repeat (first|refine blk_drewN ?_ _|refine blk_drew ?_|refine blk_alloc ?_ _)); refine blk_put (cs:=#[.int .i64 a0_0,.int .i64 a0_1,.string a0_2,.slice none 0 0,.slice none 0 0]) ?_ 3 _ rfl; (with_reducible repeat (first|refine blk_drewN ?_ _|refine blk_drew ?_|refine blk_alloc ?_ _)); exact BK232.out) hb); have n5_:=Aside0.mk (below_step (by repeat (first|(with_reducible first|exact HB.out|apply below_alloc|apply pw_below_drewN|apply below_drew1|refine below_set ?_ GE230.out|refine below_set ?_ GE231.out|refine below_set ?_ GE232.out)|exact HB.out)) hb); clear HO235; clear BK230; clear BK231; clear BK232; clear HB; have HO235:=n0_; have HO238:=n1_; have BK230:=n2_; have BK231:=n3_; have BK232:=n4_; have HB:=n5_; clear n0_ n1_ n2_ n3_ n4_ n5_; (try clear hb); (try clear hb2); (try clear hk); (try clear hi); (try clear ho0); obtain ⟨Ao17,co17,eo17⟩:=Kd.R_slice HO238.out; subst eo17; have hcz18_0:w16.cell? ⟨gb232,0,none⟩=some (.int .i64 a0_0):=(blk_cell BK232.out 0).trans rfl; have hcz18_1:w16.cell? ⟨gb232,1,none⟩=some (.int .i64 a0_1):=(blk_cell BK232.out 1).trans rfl; have hcz18_2:w16.cell? ⟨gb232,2,none⟩=some (.string a0_2):=(blk_cell BK232.out 2).trans rfl; have hcz18_3:w16.cell? ⟨gb232,3,none⟩=some (.slice Ao13 t233.length co13):=(blk_cell BK232.out 3).trans rfl; have hcz18_4:w16.cell? ⟨gb232,4,none⟩=some (.slice none 0 0):=(blk_cell BK232.out 4).trans rfl; have hfz18_0:=blk_frozen BK232.out 0; have hfz18_1:=blk_frozen BK232.out 1; have hfz18_2:=blk_frozen BK232.out 2; have hfz18_3:=blk_frozen BK232.out 3; have hfz18_4:=blk_frozen BK232.out 4; have hcz19_0:w16.cell? ⟨gb231,0,none⟩=some (.int .i64 0):=(blk_cell BK231.out 0).trans rfl; have hcz19_1:w16.cell? ⟨gb231,1,none⟩=some (.int .i64 0):=(blk_cell BK231.out 1).trans rfl; have hcz19_2:w16.cell? ⟨gb231,2,none⟩=some (.string (⟨#[]⟩:ByteArray)):=(blk_cell BK231.out 2).trans rfl; have hcz19_3:w16.cell? ⟨gb231,3,none⟩=some (.slice none 0 0):=(blk_cell BK231.out 3).trans rfl; have hcz19_4:w16.cell? ⟨gb231,4,none⟩=some (.slice none 0 0):=(blk_cell BK231.out 4).trans rfl; have hfz19_0:=blk_frozen BK231.out 0; have hfz19_1:=blk_frozen BK231.out 1; have hfz19_2:=blk_frozen BK231.out 2; have hfz19_3:=blk_frozen BK231.out 3; have hfz19_4:=blk_frozen BK231.out 4))
  refine bodyPost_ret (results_cell_row rfl _ _ gb231 33 #[.int .i64 a0_0,.int .i64 a0_1,.string a0_2,.slice Ao13 t233.length co13,.slice Ao17 t236.length co17] (0,0) _ rfl (by (with_reducible repeat (first|refine blk_drewN ?_ _|refine blk_drew ?_|refine blk_alloc ?_ _)); refine blk_put (cs:=#[.int .i64 a0_0,.int .i64 a0_1,.string a0_2,.slice Ao13 t233.length co13,.slice none 0 0]) ?_ 4 _ rfl; (with_reducible repeat (first|refine blk_drewN ?_ _|refine blk_drew ?_|refine blk_alloc ?_ _)); refine blk_put (cs:=#[.int .i64 a0_0,.int .i64 a0_1,.string a0_2,.slice none 0 0,.slice none 0 0]) ?_ 3 _ rfl; (with_reducible repeat (first|refine blk_drewN ?_ _|refine blk_drew ?_|refine blk_alloc ?_ _)); refine blk_put (cs:=#[.int .i64 a0_0,.int .i64 a0_1,.string (⟨#[]⟩:ByteArray),.slice none 0 0,.slice none 0 0]) ?_ 2 _ rfl; (with_reducible repeat (first|refine blk_drewN ?_ _|refine blk_drew ?_|refine blk_alloc ?_ _)); refine blk_put (cs:=#[.int .i64 a0_0,.int .i64 0,.string (⟨#[]⟩:ByteArray),.slice none 0 0,.slice none 0 0]) ?_ 1 _ rfl; (with_reducible repeat (first|refine blk_drewN ?_ _|refine blk_drew ?_|refine blk_alloc ?_ _)); refine blk_put (cs:=#[.int .i64 0,.int .i64 0,.string (⟨#[]⟩:ByteArray),.slice none 0 0,.slice none 0 0]) ?_ 0 _ rfl; (with_reducible repeat (first|refine blk_drewN ?_ _|refine blk_drew ?_|refine blk_alloc ?_ _)); refine blk_far ?_ NB231_232.out _; (with_reducible repeat (first|refine blk_drewN ?_ _|refine blk_drew ?_|refine blk_alloc ?_ _)); exact BK231.out) Try.underlying33 rfl (by kernel_rfl)) rfl ?_
  exact ⟨_,_,by first|rfl|(simp [errW_none,errW_some]<;>rfl)|(simp [*,errW_none,errW_some]<;>rfl),by (with_reducible repeat (first|apply Kd.R_alloc|apply Kd.R_drewN|apply Kd.R_drew)); exact Kd.R_mono (Kd.R_far (p:=⟨gb231,4,none⟩) (Kd.R_far (p:=⟨gb231,3,none⟩) (Kd.R_far (p:=⟨gb231,2,none⟩) (Kd.R_far (p:=⟨gb231,1,none⟩) (Kd.R_far (p:=⟨gb231,0,none⟩) (Kd.R_far (p:=⟨gb232,4,none⟩) (Kd.R_types (Kd.R_types HO235.out BK232.out (by decide)) BK231.out (by decide)) (fun _ hk=>hk.1.2) (.slice Ao17 t236.length co17)) (fun _ hk=>hk.2) (.int .i64 a0_0)) (fun _ hk=>hk.2) (.int .i64 a0_1)) (fun _ hk=>hk.2) (.string a0_2)) (fun _ hk=>hk.2) (.slice Ao13 t233.length co13)) (fun _ hk=>hk.2) (.slice Ao17 t236.length co17)) (fun _ hk=>trivial),by (with_reducible repeat (first|apply Kd.R_alloc|apply Kd.R_drewN|apply Kd.R_drew)); exact Kd.R_mono (Kd.R_far (p:=⟨gb231,4,none⟩) (Kd.R_far (p:=⟨gb231,3,none⟩) (Kd.R_far (p:=⟨gb231,2,none⟩) (Kd.R_far (p:=⟨gb231,1,none⟩) (Kd.R_far (p:=⟨gb231,0,none⟩) (Kd.R_far (p:=⟨gb232,4,none⟩) (Kd.R_mono (Kd.R_mono HO238.out (fun k_ hk=>(⟨hk,hk.2⟩:_∧k_ ≠ gb232))) (fun k_ hk=>(⟨hk,hk.1.1.2⟩:_∧k_ ≠ gb231))) (fun _ hk=>hk.1.2) (.slice Ao17 t236.length co17)) (fun _ hk=>hk.2) (.int .i64 a0_0)) (fun _ hk=>hk.2) (.int .i64 a0_1)) (fun _ hk=>hk.2) (.string a0_2)) (fun _ hk=>hk.2) (.slice Ao13 t233.length co13)) (fun _ hk=>hk.2) (.slice Ao17 t236.length co17)) (fun _ hk=>hk.1.1.1.1.2),by repeat (first|(with_reducible first|exact HB.out|apply below_alloc|apply pw_below_drewN|apply below_drew1|refine below_set ?_ GE230.out|refine below_set ?_ GE231.out|refine below_set ?_ GE232.out)|exact HB.out)⟩
 ·skip
  intro A0 c0 l0 r w hr0 hc0 h
  cases k with
  |zero=>exact absurd h (by simp [laws_toNodeS.f])
  |succ k =>
  simp only [laws_toNodeS.f] at h
  have hu25:=Try.underlying25
  have hu33:=Try.underlying33
  have HR0:=Aside0.mk hr0
  have HC0:=Aside0.mk hc0
  clear hr0 hc0
  have HB:=Aside0.mk (Below.refl w.heap.size w)
  have H:(if 0≤(l0.length:Int) then (if ((l0.length:Int):Int).toNat≤3518437208883 then (laws_toNodeS.l0 k l0 (List.replicate ((l0.length:Int):Int).toNat z33) 0) else (none)) else (none))=some r:=h
  clear h
  by_cases c2:0≤(l0.length:Int)
  ·rw [if_pos c2] at H
   have c2b0:=eq_true c2
   have c2b1:decide (0≤(l0.length:Int))=true:=decide_eq_true c2
   clear c2
   by_cases c3:((l0.length:Int):Int).toNat≤3518437208883
   ·rw [if_pos c3] at H
    have c3b0:=eq_true c3
    have c3b1:decide (((l0.length:Int):Int).toNat≤3518437208883)=true:=decide_eq_true c3
    clear c3
    obtain ⟨y239,hy239⟩:∃ y_:List (S33),y_=(List.replicate ((l0.length:Int):Int).toNat z33):=⟨_,rfl⟩
    replace H:(laws_toNodeS.l0 k l0 y239 0)=some r:=by first|(rw [hy239]; with_reducible exact H)|(have H2_:=(Option.bind_some _ _).symm.trans H; rw [hy239]; with_reducible exact H2_)|(have H2_:=(Option.bind_some _ _).symm.trans H; with_reducible exact H2_)|with_reducible exact H|(rw [hy239]; exact H)|exact H
    have Ny239:=Aside0.mk hy239
    clear hy239
    have H':=Aside0.mk H
    clear H
    go_enter Try.func24,Try.ntmps24
    go_wp2_with (first|((with_reducible refine gate_dst (N:=7) rfl ?_); refine Kd.R_make k33 _ 33 rfl (N:=7) rfl 31 _ _ rfl (l0.length:Int) rfl rfl Try.underlying31 (.agg #[(.int .i64 0),(.int .i64 0),(.string ⟨#[]⟩),(.slice none 0 0),(.slice none 0 0)]) 80 info33 rfl (by decide) (by omega) z33 (ok:=fun _=>True) (okp:=fun _=>True) (k33_mkM _ _ _ z33 (Kd.R_nil _ _ _ _ _) (Kd.R_nil _ _ _ _ _)) (fun _ hk=>hk) trivial (of_decide_eq_true (by first|(with_reducible assumption)|assumption)) (Nat.le_trans (Nat.mul_le_mul_right _ (of_decide_eq_true (by first|(with_reducible assumption)|assumption):(l0.length:Int).toNat≤3518437208883)) (by omega)) (Below.refl _ _) (Nat.le_refl _) ?_; intro v240 w4 ho5 hb hg_ hnew_; clear hg_ hnew_; (first|rw [← Ny239.out] at ho5|(simp only [Int.reduceToNat] at ho5; rw [← Ny239.out] at ho5)); have n0_:=Aside0.mk (Kd.R_lower ho5 (below_size (by repeat (first|(with_reducible first|exact HB.out|apply below_alloc|apply pw_below_drewN|apply below_drew1)|exact HB.out)))); have n1_:=Aside0.mk (below_step (by repeat (first|(with_reducible first|exact HB.out|apply below_alloc|apply pw_below_drewN|apply below_drew1)|exact HB.out)) hb); clear HB; have HO241:=n0_; have HB:=n1_; clear n0_ n1_; clear hb ho5))
    go_loopg [4] k (fun kq v4 w'=>∃ (x3_1:List (S33)) (x4_1:Int),v4=.int .i64 x4_1∧Aside0 (laws_toNodeS.l0 kq l0 x3_1 x4_1=some r)∧Aside0 (kq≤k)∧Aside0 (Kd.R k33 33 w' w.heap.size (fun _=>True) v240 x3_1)∧Aside0 (Below w.heap.size w w'))
    case atStart=>exact ⟨(y239),(0),(by first|rfl|(simp; done)|(simp [*]; done)),H',⟨Nat.le_refl _⟩,⟨by (with_reducible repeat (first|apply Kd.R_alloc|apply Kd.R_drewN|apply Kd.R_drew)); exact HO241.out⟩,⟨by repeat (first|(with_reducible first|exact HB.out|apply below_alloc|apply pw_below_drewN|apply below_drew1)|exact HB.out)⟩⟩
    case round =>
     clear H'
     try clear c2
     try clear c2b0
     try clear c2b1
     try clear p2
     try clear c3
     try clear c3b0
     try clear c3b1
     obtain ⟨x3_1,x4_1,rfl,HA,HK1,HO_3,HB⟩:=hrel
     cases gk with
     |zero=>exact absurd HA.out (by simp [laws_toNodeS.l0])
     |succ k1 =>
      have H:=HA.out
      clear HA
      simp only [laws_toNodeS.l0] at H
      by_cases c6:x4_1<(l0.length:Int)
      ·rw [if_pos c6] at H
       have c6b0:decide (x4_1<(l0.length:Int))=true:=decide_eq_true c6
       clear c6
       by_cases c7:0≤x4_1
       ·rw [if_pos c7] at H
        have c7b0:decide (0≤x4_1)=true:=decide_eq_true c7
        clear c7
        replace H:=Option.bind_eq_some_iff.mp H
        obtain ⟨⟨t243,t244,t245,t246,t249⟩,A80,H⟩:=H
        replace H:(if x4_1<(x3_1.length:Int) then (laws_toNodeS.l0 k1 l0 (x3_1.set (x4_1:Int).toNat (⟨t243,t244,t245,t246,t249⟩:S33)) (wrap64 (x4_1+1))) else (none))=some r:=H
        have A8:=Aside0.mk A80
        clear A80
        by_cases c9:x4_1<(x3_1.length:Int)
        ·rw [if_pos c9] at H
         have c9b0:decide (x4_1<(x3_1.length:Int))=true:=decide_eq_true c9
         clear c9
         obtain ⟨y252,hy252⟩:∃ y_:List (S33),y_=(x3_1.set (x4_1:Int).toNat (⟨t243,t244,t245,t246,t249⟩:S33)):=⟨_,rfl⟩
         replace H:(laws_toNodeS.l0 k1 l0 y252 (wrap64 (x4_1+1)))=some r:=by first|(rw [hy252]; with_reducible exact H)|(have H2_:=(Option.bind_some _ _).symm.trans H; rw [hy252]; with_reducible exact H2_)|(have H2_:=(Option.bind_some _ _).symm.trans H; with_reducible exact H2_)|with_reducible exact H|(rw [hy252]; exact H)|exact H
         have Ny252:=Aside0.mk hy252
         clear hy252
         have H':=Aside0.mk H
         clear H
         have p242:0≤(x4_1:Int):=of_decide_eq_true (by first|(with_reducible assumption)|assumption)
         have q242:x4_1<(l0.length:Int):=of_decide_eq_true (by first|(with_reducible assumption)|assumption)
         obtain ⟨ad242,A242_3,c242_3,A242_4,c242_4,e242,hx242_0,hx242_1,hx242_2,hx242_3,hx242_4,hl242_3,hi242_3,hl242_4,hi242_4⟩:=at_T25 HR0.out x4_1 p242 q242
         cases e242
         replace hx242_0:=(HB.out.cell (World.block_lt_of_cell? w _ hx242_0)).trans hx242_0
         replace hx242_1:=(HB.out.cell (World.block_lt_of_cell? w _ hx242_1)).trans hx242_1
         replace hx242_2:=(HB.out.cell (World.block_lt_of_cell? w _ hx242_2)).trans hx242_2
         replace hx242_3:=(HB.out.cell (World.block_lt_of_cell? w _ hx242_3)).trans hx242_3
         replace hx242_4:=(HB.out.cell (World.block_lt_of_cell? w _ hx242_4)).trans hx242_4
         have HR242_3:=Aside0.mk hi242_3
         have HC242_3:=Aside0.mk hl242_3
         clear hi242_3 hl242_3
         have HR242_4:=Aside0.mk hi242_4
         have HC242_4:=Aside0.mk hl242_4
         clear hi242_4 hl242_4
         replace p242:=eq_true p242
         replace q242:=eq_true q242
         go_wp2_with (first|((with_reducible refine gate_callee (f:=7) rfl ?_); refine goesL_ (some 20) rfl rfl Try.func7 (by kernel_rfl) rfl #[.agg #[.int .i64 ((rd_T25 l0 x4_1).f0),.int .i64 ((rd_T25 l0 x4_1).f1),.string ((rd_T25 l0 x4_1).f2),.slice A242_3 ((rd_T25 l0 x4_1).f3).length c242_3,.slice A242_4 ((rd_T25 l0 x4_1).f4).length c242_4]] rfl (by (try simp only [List.map_toArray,List.map_cons,List.map_nil]); first|done|rfl|(simp only [List.length_drop,List.length_take]; rfl)) ?_; (with_reducible refine (ih_laws_toNode k1 (by have:=HK1.out; omega) ((rd_T25 l0 x4_1).f0) ((rd_T25 l0 x4_1).f1) ((rd_T25 l0 x4_1).f2) _ _ ((rd_T25 l0 x4_1).f3) _ _ ((rd_T25 l0 x4_1).f4) t243 t244 t245 t246 t249 _ ?side1 ?side2 ?side3 ?side4 A8.out).mono ?_); (case side1=>repeat (first|exact (Kd.C_below HR242_3.out HB.out)|(with_reducible refine Kd.C_alloc ?_ _)|(with_reducible refine Kd.C_drewN ?_ _)|(with_reducible refine Kd.C_drew ?_))); (case side2=>exact HC242_3.out); (case side3=>repeat (first|exact (Kd.C_below HR242_4.out HB.out)|(with_reducible refine Kd.C_alloc ?_ _)|(with_reducible refine Kd.C_drewN ?_ _)|(with_reducible refine Kd.C_drew ?_))); (case side4=>exact HC242_4.out); rintro e w11 ⟨v247,v250,rfl,ho0,ho1,hb⟩; refine ⟨_,rfl,?_⟩; have h1v247_:=fun (W_:World) (a_:Addr) (m_:Mode)=>Go.run_store Try.prog W_ a_ v247 m_ (by obtain ⟨_,_,e_⟩:=Kd.R_slice ho0; rw [e_]; rfl); have h1v250_:=fun (W_:World) (a_:Addr) (m_:Mode)=>Go.run_store Try.prog W_ a_ v250 m_ (by obtain ⟨_,_,e_⟩:=Kd.R_slice ho1; rw [e_]; rfl); have n0_:=Aside0.mk (Kd.R_mono (Kd.R_told (Kd.R_told (Kd.R_old (by (with_reducible repeat (first|apply Kd.R_alloc|apply Kd.R_drewN|apply Kd.R_drew)); exact HO_3.out) hb) (Kd.R_base ho0)) (Kd.R_base ho1)) (fun _ h_=>h_.1)); have n1_:=Aside0.mk (Kd.R_lower ho0 (below_size (by repeat (first|(with_reducible first|exact HB.out|apply below_alloc|apply pw_below_drewN|apply below_drew1)|exact HB.out)))); have n2_:=Aside0.mk (Kd.R_lower (Kd.R_new' ho1 (Kd.R_lt (by (with_reducible repeat (first|apply Kd.R_alloc|apply Kd.R_drewN|apply Kd.R_drew)); exact HO_3.out))) (below_size (by repeat (first|(with_reducible first|exact HB.out|apply below_alloc|apply pw_below_drewN|apply below_drew1)|exact HB.out)))); have n3_:=Aside0.mk (below_step (by repeat (first|(with_reducible first|exact HB.out|apply below_alloc|apply pw_below_drewN|apply below_drew1)|exact HB.out)) hb); clear HO_3; clear HB; have HO_3:=n0_; have HO248:=n1_; have HO251:=n2_; have HB:=n3_; clear n0_ n1_ n2_ n3_; (try clear hb); (try clear hb2); (try clear hk); (try clear hi); (try clear ho0); (try clear ho1); have p10:0≤(x4_1:Int):=of_decide_eq_true (by first|(with_reducible assumption)|assumption); have q10:(x4_1:Int)<((x3_1.length:Int):Int):=of_decide_eq_true (by first|(with_reducible assumption)|assumption); obtain ⟨go10,co10,eo10,gb10,gl10,cl10,HG10⟩:=Kd.R_form HO_3.out (by omega); (first|cases eo10|(injection eo10 with ea_ en_ ec_; (first|subst ea_|(injection ea_ with ea_; subst ea_)); subst ec_; clear en_)); have GB10:=Aside0.mk gb10; have GG10:=Aside0.mk HG10; clear gb10 gl10 HG10; obtain ⟨ce10,hcl10,hM10,hcc10,hfr10⟩:=Kd.R_elem HO_3.out z33 (x4_1:Int) p10 q10; obtain ⟨ve10_3,ve10_4,rfl,ge10_3,ge10_4⟩:=k33_openM hM10; have hx10_0:w11.cell? ⟨go10,(x4_1:Int).toNat*5,none⟩=some (.int .i64 ((rd_T33 x3_1 x4_1).f0)):=hcc10 0 _ rfl; have hx10_1:w11.cell? ⟨go10,(x4_1:Int).toNat*5+1,none⟩=some (.int .i64 ((rd_T33 x3_1 x4_1).f1)):=hcc10 1 _ rfl; have hx10_2:w11.cell? ⟨go10,(x4_1:Int).toNat*5+2,none⟩=some (.string ((rd_T33 x3_1 x4_1).f2)):=hcc10 2 _ rfl; have hx10_3:w11.cell? ⟨go10,(x4_1:Int).toNat*5+3,none⟩=some (ve10_3):=hcc10 3 _ rfl; have hx10_4:w11.cell? ⟨go10,(x4_1:Int).toNat*5+4,none⟩=some (ve10_4):=hcc10 4 _ rfl; have hf10_0:w11.frozen? ⟨go10,(x4_1:Int).toNat*5,none⟩=false:=hfr10 0; have hf10_1:w11.frozen? ⟨go10,(x4_1:Int).toNat*5+1,none⟩=false:=hfr10 1; have hf10_2:w11.frozen? ⟨go10,(x4_1:Int).toNat*5+2,none⟩=false:=hfr10 2; have hf10_3:w11.frozen? ⟨go10,(x4_1:Int).toNat*5+3,none⟩=false:=hfr10 3; have hf10_4:w11.frozen? ⟨go10,(x4_1:Int).toNat*5+4,none⟩=false:=hfr10 4; clear hcl10 hcc10 hfr10 hM10; replace p10:=eq_true p10; replace q10:=eq_true q10; have n_:=Aside0.mk (Kd.R_mono (ok':=(fun k_=>some k_ ≠ (v247:Value).ownBlock∧some k_ ≠ (v250:Value).ownBlock)) HO_3.out (fun k_ hk=>⟨hk.1.2,hk.2⟩)); clear HO_3; have HO_3:=n_; clear n_; have HX12:=Aside0.mk (show Kd.R k33 33 w11 w.heap.size (fun _=>True) (.slice (some ⟨go10,0,none⟩) x3_1.length co10) x3_1 from (by (with_reducible repeat (first|apply Kd.R_alloc|apply Kd.R_drewN|apply Kd.R_drew)); exact Kd.R_mono HO_3.out (fun _ hk=>trivial))); obtain ⟨ce12,hcl12,hM12,hcc12,hfr12⟩:=Kd.R_elem HX12.out z33 (x4_1:Int) (of_decide_eq_true (by first|(with_reducible assumption)|assumption)) (by have h_:(x4_1:Int)<((x3_1.length:Int):Int):=of_decide_eq_true (by first|(with_reducible assumption)|assumption); first|exact h_|(have e_:=(Kd.R_reads' HO_3.out).1; omega)|simpa using h_); obtain ⟨ve12_3,ve12_4,rfl,ge12_3,ge12_4⟩:=k33_openM hM12; have HP12:=Kd.R_seg HX12.out (x4_1:Int) (of_decide_eq_true (by first|(with_reducible assumption)|assumption)) (by have h_:(x4_1:Int)<((x3_1.length:Int):Int):=of_decide_eq_true (by first|(with_reducible assumption)|assumption); first|exact h_|(have e_:=(Kd.R_reads' HO_3.out).1; omega)|simpa using h_) (seg:=[.int .i64 t243,.int .i64 t244,.string t245,v247,v250]) (j:=0) hcl12 hcc12 (show 5≤5 from by decide) (x':=(⟨t243,t244,t245,t246,t249⟩:S33)) (k33_mkM _ _ _ (⟨t243,t244,t245,t246,t249⟩:S33) (Kd.R_mono (Kd.R_apart' (HO248.out) (Kd.R_typed HO_3.out) (by decide)) (fun k_ hk=>⟨trivial,fun e_=>(hk.2) (by rw [e_]; rfl)⟩)) (Kd.R_mono (HO251.out) (fun k_ hk=>⟨trivial,fun e_=>(hk.2) (by rw [e_]; rfl)⟩))) (fun _ hk=>hk); have hx12_0:=hcc12 0 _ rfl; (try simp only [show (k33).sz=5 from rfl,Nat.mul_one,Nat.add_zero] at hx12_0); have hf12_0:=hfr12 0; (try simp only [show (k33).sz=5 from rfl,Nat.mul_one,Nat.add_zero] at hf12_0); have hx12_1:=hcc12 1 _ rfl; (try simp only [show (k33).sz=5 from rfl,Nat.mul_one,Nat.add_zero] at hx12_1); have hf12_1:=hfr12 1; (try simp only [show (k33).sz=5 from rfl,Nat.mul_one,Nat.add_zero] at hf12_1); have hx12_2:=hcc12 2 _ rfl; (try simp only [show (k33).sz=5 from rfl,Nat.mul_one,Nat.add_zero] at hx12_2); have hf12_2:=hfr12 2; (try simp only [show (k33).sz=5 from rfl,Nat.mul_one,Nat.add_zero] at hf12_2); have hx12_3:=hcc12 3 _ rfl; (try simp only [show (k33).sz=5 from rfl,Nat.mul_one,Nat.add_zero] at hx12_3); have hf12_3:=hfr12 3; (try simp only [show (k33).sz=5 from rfl,Nat.mul_one,Nat.add_zero] at hf12_3); have hx12_4:=hcc12 4 _ rfl; (try simp only [show (k33).sz=5 from rfl,Nat.mul_one,Nat.add_zero] at hx12_4); have hf12_4:=hfr12 4; (try simp only [show (k33).sz=5 from rfl,Nat.mul_one,Nat.add_zero] at hf12_4); clear hcl12 hcc12 hfr12 hM12)|((with_reducible refine gate_store (t:=33) (p:=21) rfl ?_); refine store_event (t:=33) (p:=21) (v:=?vo_w13) (w1:=(((((w11.setCell ⟨go10,(x4_1:Int).toNat*5,none⟩ (.int .i64 t243)).setCell ⟨go10,(x4_1:Int).toNat*5+1,none⟩ (.int .i64 t244)).setCell ⟨go10,(x4_1:Int).toNat*5+2,none⟩ (.string t245)).setCell ⟨go10,(x4_1:Int).toNat*5+3,none⟩ (v247)).setCell ⟨go10,(x4_1:Int).toNat*5+4,none⟩ (v250))) ?hg ?ho ?hn ?hr ?_; (case ho=>rfl); (case hg=>rfl); (case hn=>rfl); (case hr=>first|(go_simp; done)|(go_simp; rfl)); intro w13 hw; have hg:w11.grownBy w13 (some go10):=(by rw [hw]; exact HP12.2); have hp_:Kd.R k33 33 w13 w.heap.size (fun _=>True) (.slice (some ⟨go10,0,none⟩) x3_1.length co10) y252:=(by rw [hw,Ny252.out]; exact HP12.1); clear HP12; have n0_:=Aside0.mk (hp_); have n1_:=Aside0.mk ((by rw [hw]; exact below_set (below_set (below_set (below_set (below_set (HB.out) GB10.out) GB10.out) GB10.out) GB10.out) GB10.out:Below w.heap.size w w13)); clear HO_3; clear HB; clear HO248; clear HO251; have HO_3:=n0_; have HB:=n1_; clear n0_ n1_; clear hg hw hp_))
         go_roundg k1
         case measure=>have:=HK1.out; omega
         case rel=>exact ⟨(y252),(wrap64 (x4_1+1)),(by first|rfl|(simp; done)|(simp [*]; done)),H',⟨by have:=HK1.out; omega⟩,⟨by (with_reducible repeat (first|apply Kd.R_alloc|apply Kd.R_drewN|apply Kd.R_drew)); exact HO_3.out⟩,⟨by repeat (first|(with_reducible first|exact HB.out|apply below_alloc|apply pw_below_drewN|apply below_drew1)|exact HB.out)⟩⟩
        ·rw [if_neg c9] at H
         exact absurd H (by simp)
       ·rw [if_neg c7] at H
        exact absurd H (by simp)
      ·rw [if_neg c6] at H
       have c6b0:decide (x4_1<(l0.length:Int))=false:=decide_eq_false c6
       clear c6
       obtain rfl:=Option.some.inj H
       go_wp2
       go_ret
       exact ⟨_,by first|rfl|(simp [errW_none,errW_some]<;>rfl)|(simp [*,errW_none,errW_some]<;>rfl),by (with_reducible repeat (first|apply Kd.R_alloc|apply Kd.R_drewN|apply Kd.R_drew)); exact HO_3.out,by repeat (first|(with_reducible first|exact HB.out|apply below_alloc|apply pw_below_drewN|apply below_drew1)|exact HB.out)⟩
   ·rw [if_neg c3] at H
    exact absurd H (by simp)
  ·rw [if_neg c2] at H
   exact absurd H (by simp)
theorem laws_toNode.calls (k:Nat):∀ (a0_0:Int) (a0_1:Int) (a0_2:ByteArray) (A0_3:Option Addr) (c0_3:Nat) (l0_3:List ByteArray) (A0_4:Option Addr) (c0_4:Nat) (l0_4:List (S25)) (r1:Int) (r2:Int) (r3:ByteArray) (r4:List ByteArray) (r5:List (S33)) (w:World) (hr0_3:Kd.C Kd.string w A0_3 l0_3.length l0_3) (hc0_3:l0_3.length≤c0_3) (hr0_4:Kd.C k25 w A0_4 l0_4.length l0_4) (hc0_4:l0_4.length≤c0_4) (h:laws_toNode.f k a0_0 a0_1 a0_2 l0_3 l0_4=some (r1,r2,r3,r4,r5)),
  Calls Try.prog 7 #[.agg #[.int .i64 a0_0,.int .i64 a0_1,.string a0_2,.slice A0_3 l0_3.length c0_3,.slice A0_4 l0_4.length c0_4]] w fun e w'=>∃ v3_ v4_:Value,e=.returned (.agg #[.int .i64 r1,.int .i64 r2,.string r3,v3_,v4_])∧Kd.R Kd.string 9 w' w.heap.size (fun _=>True) v3_ r4∧Kd.R k33 33 w' w.heap.size (fun k_=>some k_ ≠ (v3_:Value).ownBlock) v4_ r5∧Below w.heap.size w w':=(laws_toNode.calls_all k).1
theorem laws_toNodeS.calls (k:Nat):∀ (A0:Option Addr) (c0:Nat) (l0:List (S25)) (r:List (S33)) (w:World) (hr0:Kd.C k25 w A0 l0.length l0) (hc0:l0.length≤c0) (h:laws_toNodeS.f k l0=some r),
  Calls Try.prog 24 #[.slice A0 l0.length c0] w fun e w'=>∃ v0_:Value,e=.returned (v0_)∧Kd.R k33 33 w' w.heap.size (fun _=>True) v0_ r∧Below w.heap.size w w':=(laws_toNode.calls_all k).2
mutual
def impl_size.l0:Nat→Int→Int→Int→List (S33)→Int→Int→Option (Int × Int)
 |0,_,_,_,_,_,_=>none
 |k+1,x1,x6,x7,x15,x16,x17=>if x17<x16 then (if 0≤x17 then (if x17<(x15.length:Int) then ((impl_size.f k ((rd_T33 x15 x17).f0) ((rd_T33 x15 x17).f1) ((rd_T33 x15 x17).f2) ((rd_T33 x15 x17).f3) ((rd_T33 x15 x17).f4) (wrap64 (x1-1))).bind fun bt256=>(impl_size.l0 k x1 (mn (wrap64 (x6+bt256.1)) 201) (mx x7 bt256.2) x15 x16 (wrap64 (x17+1)))) else (none)) else (none)) else (some (x6,wrap64 (x7+1)))
def impl_size.f:Nat→Int→Int→ByteArray→List ByteArray→List (S33)→Int→Option (Int × Int)
 |0,_,_,_,_,_,_=>none
 |k+1,a0_0,a0_1,a0_2,l0_3,l0_4,a1=>if a1=0 then (some (201,9)) else (impl_size.l0 k a1 1 0 l0_4 (l0_4.length:Int) 0)
end
theorem impl_size.mono_l:∀ k,(∀ y0 y1 y2 y3 y4 y5,LeO (impl_size.f k y0 y1 y2 y3 y4 y5) (impl_size.f (k+1) y0 y1 y2 y3 y4 y5))∧(∀ y0 y1 y2 y3 y4 y5,LeO (impl_size.l0 k y0 y1 y2 y3 y4 y5) (impl_size.l0 (k+1) y0 y1 y2 y3 y4 y5))
 |0=>⟨fun _ _ _ _ _ _ r h=>by simp [impl_size.f] at h,fun _ _ _ _ _ _ r h=>by simp [impl_size.l0] at h⟩
 |k+1=>by
  obtain ⟨ih0,ih1⟩:=impl_size.mono_l k
  refine ⟨?_,?_⟩
  ·intro y0 y1 y2 y3 y4 y5
   unfold impl_size.f
   repeat' first
   |(with_reducible exact ih0 _ _ _ _ _ _)
   |(with_reducible exact ih1 _ _ _ _ _ _)
   |(with_reducible exact LeO.refl _)
   |(with_reducible exact LeO.none _)
   |(with_reducible refine LeO.ite ?_ ?_)
   |(with_reducible refine LeO.bind ?_ (fun _=>?_))
   |exact ih0 _ _ _ _ _ _
   |exact ih1 _ _ _ _ _ _
   |exact LeO.none _
   |refine LeO.ite ?_ ?_
   |refine LeO.bind ?_ (fun _=>?_)
  ·intro y0 y1 y2 y3 y4 y5
   unfold impl_size.l0
   repeat' first
   |(with_reducible exact ih0 _ _ _ _ _ _)
   |(with_reducible exact ih1 _ _ _ _ _ _)
   |(with_reducible exact LeO.refl _)
   |(with_reducible exact LeO.none _)
   |(with_reducible refine LeO.ite ?_ ?_)
   |(with_reducible refine LeO.bind ?_ (fun _=>?_))
   |exact ih0 _ _ _ _ _ _
   |exact ih1 _ _ _ _ _ _
   |exact LeO.none _
   |refine LeO.ite ?_ ?_
   |refine LeO.bind ?_ (fun _=>?_)
theorem impl_size.mono:∀ a0 a1 a2 a3 a4 a5 k,LeO (impl_size.f k a0 a1 a2 a3 a4 a5) (impl_size.f (k+1) a0 a1 a2 a3 a4 a5):=by
 intro a0 a1 a2 a3 a4 a5 k
 obtain ⟨ih0,ih1⟩:=impl_size.mono_l k
 exact ih0 a0 a1 a2 a3 a4 a5
set_option maxHeartbeats 8000000 in
set_option maxRecDepth 100000 in
theorem impl_size.calls (k:Nat):∀ (a0_0:Int) (a0_1:Int) (a0_2:ByteArray) (A0_3:Option Addr) (c0_3:Nat) (l0_3:List ByteArray) (A0_4:Option Addr) (c0_4:Nat) (l0_4:List (S33)) (a1:Int) (r1:Int) (r2:Int) (w:World) (hr0_3:Kd.C Kd.string w A0_3 l0_3.length l0_3) (hc0_3:l0_3.length≤c0_3) (hr0_4:Kd.C k33 w A0_4 l0_4.length l0_4) (hc0_4:l0_4.length≤c0_4) (h:impl_size.f k a0_0 a0_1 a0_2 l0_3 l0_4 a1=some (r1,r2)),
  Calls Try.prog 49 #[.agg #[.int .i64 a0_0,.int .i64 a0_1,.string a0_2,.slice A0_3 l0_3.length c0_3,.slice A0_4 l0_4.length c0_4],.int .i64 a1] w fun e w'=>e=.returned (.tuple #[.int .i64 r1,.int .i64 r2])∧Below w.heap.size w w':=by
 induction k using Nat.strongRecOn with
 |_ k ih =>
 intro a0_0 a0_1 a0_2 A0_3 c0_3 l0_3 A0_4 c0_4 l0_4 a1 r1 r2 w hr0_3 hc0_3 hr0_4 hc0_4 h
 cases k with
 |zero=>exact absurd h (by simp [impl_size.f])
 |succ k =>
 simp only [impl_size.f] at h
 have hu33:=Try.underlying33
 have HR0_3:=Aside0.mk hr0_3
 have HC0_3:=Aside0.mk hc0_3
 clear hr0_3 hc0_3
 have HR0_4:=Aside0.mk hr0_4
 have HC0_4:=Aside0.mk hc0_4
 clear hr0_4 hc0_4
 have HB:=Aside0.mk (Below.refl w.heap.size w)
 have H:(if a1=0 then (some (201,9)) else (impl_size.l0 k a1 1 0 l0_4 (l0_4.length:Int) 0))=some (r1,r2):=h
 clear h
 have HC3:=Aside0.mk H
 clear H
 go_enter Try.func49,Try.ntmps49
 go_upto_if 13 with (first|((with_reducible refine gate_dst (N:=2) rfl ?_); refine box_event ?hg (N:=2) ?hd (cs:=#[.int .i64 a0_0,.int .i64 a0_1,.string a0_2,.slice A0_3 l0_3.length c0_3,.slice A0_4 l0_4.length c0_4]) (t:=33) ?hr ?_; (case hd=>rfl); (case hg=>rfl); (case hr=>first|(go_simp; done)|(go_simp; rfl)); intro gb253 hg w4 hbox hb; have n0_:=Aside0.mk (below_step (by repeat (first|(with_reducible first|exact HB.out|apply below_alloc|apply pw_below_drewN|apply below_drew1)|exact HB.out)) hb); have n1_:=Aside0.mk (hbox); have n2_:=Aside0.mk ((by rw [hg]; exact (below_size (by repeat (first|(with_reducible first|exact HB.out|apply below_alloc|apply pw_below_drewN|apply below_drew1)|exact HB.out))):w.heap.size≤gb253)); have n3_:=Aside0.mk ((by rw [hg]; exact (below_size (by repeat (first|(with_reducible first|exact HB.out|apply below_alloc|apply pw_below_drewN|apply below_drew1)|exact HB.out))):w.heap.size≤gb253)); clear HB; have HB:=n0_; have BK253:=n1_; have GW253:=n2_; have GE253:=n3_; clear n0_ n1_ n2_ n3_; clear hb hbox hg))
 (try simp only [Act.put,List.setIfInBounds_toArray,List.set_cons_zero,List.set_cons_succ])
 have H:=HC3.out
 clear HC3
 by_cases c5:a1=0
 ·rw [if_pos c5] at H
  have c5b0:(a1 == 0)=true:=beq_iff_eq.mpr c5
  have c5b1:(a1 != 0)=false:=bne_eq_false_iff_eq.mpr c5
  clear c5
  (first|rw [c5b0]|rw [c5b1]|(simp only [i64_w,i32_w]; rw [c5b0])|skip)
  simp only [Option.some.injEq,Prod.mk.injEq] at H
  obtain ⟨rfl,rfl⟩:=H
  go_wp2
  go_ret2
  exact ⟨by first|rfl|(simp [errW_none,errW_some]<;>rfl)|(simp [*,errW_none,errW_some]<;>rfl),by repeat (first|(with_reducible first|exact HB.out|apply below_alloc|apply pw_below_drewN|apply below_drew1|refine below_set ?_ GE253.out)|exact HB.out)⟩
 ·rw [if_neg c5] at H
  have c5b0:(a1 == 0)=false:=beq_eq_false_iff_ne.mpr c5
  have c5b1:(a1 != 0)=true:=bne_iff_ne.mpr c5
  (first|rw [c5b0]|rw [c5b1]|(simp only [i64_w,i32_w]; rw [c5b0])|skip)
  have H':=Aside0.mk H
  clear H
  have hcz6_0:w4.cell? ⟨gb253,0,none⟩=some (.int .i64 a0_0):=(blk_cell BK253.out 0).trans rfl
  have hcz6_1:w4.cell? ⟨gb253,1,none⟩=some (.int .i64 a0_1):=(blk_cell BK253.out 1).trans rfl
  have hcz6_2:w4.cell? ⟨gb253,2,none⟩=some (.string a0_2):=(blk_cell BK253.out 2).trans rfl
  have hcz6_3:w4.cell? ⟨gb253,3,none⟩=some (.slice A0_3 l0_3.length c0_3):=(blk_cell BK253.out 3).trans rfl
  have hcz6_4:w4.cell? ⟨gb253,4,none⟩=some (.slice A0_4 l0_4.length c0_4):=(blk_cell BK253.out 4).trans rfl
  have hfz6_0:=blk_frozen BK253.out 0
  have hfz6_1:=blk_frozen BK253.out 1
  have hfz6_2:=blk_frozen BK253.out 2
  have hfz6_3:=blk_frozen BK253.out 3
  have hfz6_4:=blk_frozen BK253.out 4
  go_wp2
  go_loopg [6,7,17] k (fun kq v6 v7 v17 w'=>∃ (x6_1:Int) (x7_1:Int) (x17_1:Int),v6=.int .i64 x6_1∧v7=.int .i64 x7_1∧v17=.int .i64 x17_1∧Aside0 (impl_size.l0 kq a1 x6_1 x7_1 l0_4 (l0_4.length:Int) x17_1=some (r1,r2))∧Aside0 (kq≤k)∧Aside0 (w'.heap[gb253]?=some (.cells #[.int .i64 a0_0,.int .i64 a0_1,.string a0_2,(.slice A0_3 l0_3.length c0_3),(.slice A0_4 l0_4.length c0_4)] 33 (0,0)))∧Aside0 (Below w.heap.size w w'))
  case atStart=>exact ⟨(1),(0),(0),(by first|rfl|(simp; done)|(simp [*]; done)),(by first|rfl|(simp; done)|(simp [*]; done)),(by first|rfl|(simp; done)|(simp [*]; done)),H',⟨Nat.le_refl _⟩,⟨by (with_reducible repeat (first|refine blk_drewN ?_ _|refine blk_drew ?_|refine blk_alloc ?_ _)); exact BK253.out⟩,⟨by repeat (first|(with_reducible first|exact HB.out|apply below_alloc|apply pw_below_drewN|apply below_drew1|refine below_set ?_ GE253.out)|exact HB.out)⟩⟩
  case round =>
   clear H'
   try clear p2
   try clear c4
   try clear c5
   try clear c5b0
   try clear c5b1
   try clear hcz6_0
   try clear hcz6_1
   try clear hcz6_2
   try clear hcz6_3
   try clear hcz6_4
   try clear hfz6_0
   try clear hfz6_1
   try clear hfz6_2
   try clear hfz6_3
   try clear hfz6_4
   obtain ⟨x6_1,x7_1,x17_1,rfl,rfl,rfl,HA,HK1,BK253,HB⟩:=hrel
   cases gk with
   |zero=>exact absurd HA.out (by simp [impl_size.l0])
   |succ k1 =>
    have H:=HA.out
    clear HA
    simp only [impl_size.l0] at H
    by_cases c7:x17_1<(l0_4.length:Int)
    ·rw [if_pos c7] at H
     have c7b0:decide (x17_1<(l0_4.length:Int))=true:=decide_eq_true c7
     clear c7
     by_cases c8:0≤x17_1
     ·rw [if_pos c8] at H
      have c8b0:decide (0≤x17_1)=true:=decide_eq_true c8
      clear c8
      by_cases c9:x17_1<(l0_4.length:Int)
      ·rw [if_pos c9] at H
       have c9b0:decide (x17_1<(l0_4.length:Int))=true:=decide_eq_true c9
       clear c9
       replace H:=Option.bind_eq_some_iff.mp H
       obtain ⟨⟨t256,t257⟩,A100,H⟩:=H
       replace H:(impl_size.l0 k1 a1 (mn (wrap64 (x6_1+t256)) 201) (mx x7_1 t257) l0_4 (l0_4.length:Int) (wrap64 (x17_1+1)))=some (r1,r2):=H
       have A10:=Aside0.mk A100
       clear A100
       obtain ⟨ji11,hji11⟩:∃ j_:Int,(mn (wrap64 (x6_1+t256)) 201)=j_:=⟨_,rfl⟩
       replace H:(impl_size.l0 k1 a1 ji11 (mx x7_1 t257) l0_4 (l0_4.length:Int) (wrap64 (x17_1+1)))=some (r1,r2):=by first|(rw [hji11] at H; exact H)|(simp only [hji11] at H ⊢; exact H)
       (try rw [hji11] at A10)
       have hji11_:(if 201<(wrap64 (x6_1+t256)) then 201 else (wrap64 (x6_1+t256)))=ji11:=hji11
       obtain ⟨ji12,hji12⟩:∃ j_:Int,(mx x7_1 t257)=j_:=⟨_,rfl⟩
       replace H:(impl_size.l0 k1 a1 ji11 ji12 l0_4 (l0_4.length:Int) (wrap64 (x17_1+1)))=some (r1,r2):=by first|(rw [hji12] at H; exact H)|(simp only [hji12] at H ⊢; exact H)
       (try rw [hji12] at A10)
       have hji12_:(if x7_1<t257 then t257 else x7_1)=ji12:=hji12
       have H':=Aside0.mk H
       clear H
       have p254:0≤(x17_1:Int):=of_decide_eq_true (by first|(with_reducible assumption)|assumption)
       have q254:x17_1<(l0_4.length:Int):=of_decide_eq_true (by first|(with_reducible assumption)|assumption)
       obtain ⟨ad254,A254_3,c254_3,A254_4,c254_4,e254,hx254_0,hx254_1,hx254_2,hx254_3,hx254_4,hl254_3,hi254_3,hl254_4,hi254_4⟩:=at_T33 HR0_4.out x17_1 p254 q254
       cases e254
       replace hx254_0:=(HB.out.cell (World.block_lt_of_cell? w _ hx254_0)).trans hx254_0
       replace hx254_1:=(HB.out.cell (World.block_lt_of_cell? w _ hx254_1)).trans hx254_1
       replace hx254_2:=(HB.out.cell (World.block_lt_of_cell? w _ hx254_2)).trans hx254_2
       replace hx254_3:=(HB.out.cell (World.block_lt_of_cell? w _ hx254_3)).trans hx254_3
       replace hx254_4:=(HB.out.cell (World.block_lt_of_cell? w _ hx254_4)).trans hx254_4
       have HR254_3:=Aside0.mk hi254_3
       have HC254_3:=Aside0.mk hl254_3
       clear hi254_3 hl254_3
       have HR254_4:=Aside0.mk hi254_4
       have HC254_4:=Aside0.mk hl254_4
       clear hi254_4 hl254_4
       replace p254:=eq_true p254
       replace q254:=eq_true q254
       go_wp2_with (first|((with_reducible refine gate_dst (N:=9) rfl ?_); refine box_event ?hg (N:=9) ?hd (cs:=#[.int .i64 0,.int .i64 0,.string (⟨#[]⟩:ByteArray),.slice none 0 0,.slice none 0 0]) (t:=33) ?hr ?_; (case hd=>rfl); (case hg=>rfl); (case hr=>first|(go_simp; done)|(go_simp; rfl)); intro gb255 hg w13 hbox hb; have n0_:=Aside0.mk (blk_below (g:=gb253) (o:=.cells #[.int .i64 a0_0,.int .i64 a0_1,.string a0_2,.slice A0_3 l0_3.length c0_3,.slice (some ad254) l0_4.length c0_4] 33 (0,0)) (by (with_reducible repeat (first|refine blk_drewN ?_ _|refine blk_drew ?_|refine blk_alloc ?_ _)); exact BK253.out) hb); have n1_:=Aside0.mk (below_step (by repeat (first|(with_reducible first|exact HB.out|apply below_alloc|apply pw_below_drewN|apply below_drew1|refine below_set ?_ GE253.out)|exact HB.out)) hb); have n2_:=Aside0.mk (hbox); have n3_:=Aside0.mk ((by rw [hg]; exact (below_size (by repeat (first|(with_reducible first|exact HB.out|apply below_alloc|apply pw_below_drewN|apply below_drew1|refine below_set ?_ GE253.out)|exact HB.out))):w.heap.size≤gb255)); have n4_:=Aside0.mk ((by rw [hg]; exact (below_size (by repeat (first|(with_reducible first|exact HB.out|apply below_alloc|apply pw_below_drewN|apply below_drew1|refine below_set ?_ GE253.out)|exact HB.out))):w.heap.size≤gb255)); have n5_:=Aside0.mk ((by rw [hg]; exact Nat.ne_of_lt (blk_lt (g:=gb253) (o:=.cells #[.int .i64 a0_0,.int .i64 a0_1,.string a0_2,.slice A0_3 l0_3.length c0_3,.slice (some ad254) l0_4.length c0_4] 33 (0,0)) (by (with_reducible repeat (first|refine blk_drewN ?_ _|refine blk_drew ?_|refine blk_alloc ?_ _)); exact BK253.out)):gb253 ≠ gb255)); have n6_:=Aside0.mk ((by rw [hg]; exact Nat.ne_of_gt (blk_lt (g:=gb253) (o:=.cells #[.int .i64 a0_0,.int .i64 a0_1,.string a0_2,.slice A0_3 l0_3.length c0_3,.slice (some ad254) l0_4.length c0_4] 33 (0,0)) (by (with_reducible repeat (first|refine blk_drewN ?_ _|refine blk_drew ?_|refine blk_alloc ?_ _)); exact BK253.out)):gb255 ≠ gb253)); clear BK253; clear HB; have BK253:=n0_; have HB:=n1_; have BK255:=n2_; have GW255:=n3_; have GE255:=n4_; have NB253_255:=n5_; have NB255_253:=n6_; clear n0_ n1_ n2_ n3_ n4_ n5_ n6_; clear hb hbox hg; have hnb14:=NB255_253.out; have hnc14:=NB253_255.out; have hcz15_0:w13.cell? ⟨gb255,0,none⟩=some (.int .i64 0):=(blk_cell BK255.out 0).trans rfl; have hcz15_1:w13.cell? ⟨gb255,1,none⟩=some (.int .i64 0):=(blk_cell BK255.out 1).trans rfl; have hcz15_2:w13.cell? ⟨gb255,2,none⟩=some (.string (⟨#[]⟩:ByteArray)):=(blk_cell BK255.out 2).trans rfl; have hcz15_3:w13.cell? ⟨gb255,3,none⟩=some (.slice none 0 0):=(blk_cell BK255.out 3).trans rfl; have hcz15_4:w13.cell? ⟨gb255,4,none⟩=some (.slice none 0 0):=(blk_cell BK255.out 4).trans rfl; have hfz15_0:=blk_frozen BK255.out 0; have hfz15_1:=blk_frozen BK255.out 1; have hfz15_2:=blk_frozen BK255.out 2; have hfz15_3:=blk_frozen BK255.out 3; have hfz15_4:=blk_frozen BK255.out 4)|((with_reducible refine gate_callee (f:=49) rfl ?_); refine goesL_ (some 25) rfl rfl Try.func49 (by kernel_rfl) rfl #[.agg #[.int .i64 ((rd_T33 l0_4 x17_1).f0),.int .i64 ((rd_T33 l0_4 x17_1).f1),.string ((rd_T33 l0_4 x17_1).f2),.slice A254_3 ((rd_T33 l0_4 x17_1).f3).length c254_3,.slice A254_4 ((rd_T33 l0_4 x17_1).f4).length c254_4],.int .i64 (wrap64 (a1-1))] rfl (by (try simp only [List.map_toArray,List.map_cons,List.map_nil]); first|done|rfl|(simp only [List.length_drop,List.length_take]; rfl)) ?_; (with_reducible refine (ih k1 (by have:=HK1.out; omega) ((rd_T33 l0_4 x17_1).f0) ((rd_T33 l0_4 x17_1).f1) ((rd_T33 l0_4 x17_1).f2) _ _ ((rd_T33 l0_4 x17_1).f3) _ _ ((rd_T33 l0_4 x17_1).f4) (wrap64 (a1-1)) t256 t257 _ ?side1 ?side2 ?side3 ?side4 A10.out).mono ?_); (case side1=>exact Kd.C_below HR254_3.out (by repeat (first|(with_reducible first|exact HB.out|apply below_alloc|apply pw_below_drewN|apply below_drew1|refine below_set ?_ GE253.out|refine below_set ?_ GE255.out)|exact HB.out))); (case side2=>exact HC254_3.out); (case side3=>exact Kd.C_below HR254_4.out (by repeat (first|(with_reducible first|exact HB.out|apply below_alloc|apply pw_below_drewN|apply below_drew1|refine below_set ?_ GE253.out|refine below_set ?_ GE255.out)|exact HB.out))); (case side4=>exact HC254_4.out); rintro e w16 ⟨rfl,hb⟩; refine ⟨_,rfl,?_⟩; have n0_:=Aside0.mk (blk_below (g:=gb253) (o:=.cells #[.int .i64 a0_0,.int .i64 a0_1,.string a0_2,.slice A0_3 l0_3.length c0_3,.slice (some ad254) l0_4.length c0_4] 33 (0,0)) (by (with_reducible repeat (first|refine blk_drewN ?_ _|refine blk_drew ?_|refine blk_alloc ?_ _)); refine blk_far ?_ NB253_255.out _; (with_reducible repeat (first|refine blk_drewN ?_ _|refine blk_drew ?_|refine blk_alloc ?_ _)); refine blk_far ?_ NB253_255.out _; (with_reducible repeat (first|refine blk_drewN ?_ _|refine blk_drew ?_|refine blk_alloc ?_ _)); refine blk_far ?_ NB253_255.out _; (with_reducible repeat (first|refine blk_drewN ?_ _|refine blk_drew ?_|refine blk_alloc ?_ _)); refine blk_far ?_ NB253_255.out _; (with_reducible repeat (first|refine blk_drewN ?_ _|refine blk_drew ?_|refine blk_alloc ?_ _)); refine blk_far ?_ NB253_255.out _; (with_reducible repeat (first|refine blk_drewN ?_ _|refine blk_drew ?_|refine blk_alloc ?_ _)); exact BK253.out) hb); have n1_:=Aside0.mk (blk_below (g:=gb255) (o:=.cells #[.int .i64 ((rd_T33 l0_4 x17_1).f0),.int .i64 ((rd_T33 l0_4 x17_1).f1),.string ((rd_T33 l0_4 x17_1).f2),.slice A254_3 ((rd_T33 l0_4 x17_1).f3).length c254_3,.slice A254_4 ((rd_T33 l0_4 x17_1).f4).length c254_4] 33 (0,0)) (by (with_reducible repeat (first|refine blk_drewN ?_ _|refine blk_drew ?_|refine blk_alloc ?_ _)); refine blk_put (cs:=#[.int .i64 ((rd_T33 l0_4 x17_1).f0),.int .i64 ((rd_T33 l0_4 x17_1).f1),.string ((rd_T33 l0_4 x17_1).f2),.slice A254_3 ((rd_T33 l0_4 x17_1).f3).length c254_3,.slice none 0 0]) ?_ 4 _ rfl; (with_reducible repeat (first|refine blk_drewN ?_ _|refine blk_drew ?_|refine blk_alloc ?_ _)); refine blk_put (cs:=#[.int .i64 ((rd_T33 l0_4 x17_1).f0),.int .i64 ((rd_T33 l0_4 x17_1).f1),.string ((rd_T33 l0_4 x17_1).f2),.slice none 0 0,.slice none 0 0]) ?_ 3 _ rfl; (with_reducible repeat (first|refine blk_drewN ?_ _|refine blk_drew ?_|refine blk_alloc ?_ _)); refine blk_put (cs:=#[.int .i64 ((rd_T33 l0_4 x17_1).f0),.int .i64 ((rd_T33 l0_4 x17_1).f1),.string (⟨#[]⟩:ByteArray),.slice none 0 0,.slice none 0 0]) ?_ 2 _ rfl; (with_reducible repeat (first|refine blk_drewN ?_ _|refine blk_drew ?_|refine blk_alloc ?_ _)); refine blk_put (cs:=#[.int .i64 ((rd_T33 l0_4 x17_1).f0),.int .i64 0,.string (⟨#[]⟩:ByteArray),.slice none 0 0,.slice none 0 0]) ?_ 1 _ rfl; (with_reducible repeat (first|refine blk_drewN ?_ _|refine blk_drew ?_|refine blk_alloc ?_ _)); refine blk_put (cs:=#[.int .i64 0,.int .i64 0,.string (⟨#[]⟩:ByteArray),.slice none 0 0,.slice none 0 0]) ?_ 0 _ rfl; (with_reducible repeat (first|refine blk_drewN ?_ _|refine blk_drew ?_|refine blk_alloc ?_ _)); exact BK255.out) hb); have n2_:=Aside0.mk (below_step (by repeat (first|(with_reducible first|exact HB.out|apply below_alloc|apply pw_below_drewN|apply below_drew1|refine below_set ?_ GE253.out|refine below_set ?_ GE255.out)|exact HB.out)) hb); clear BK253; clear BK255; clear HB; have BK253:=n0_; have BK255:=n1_; have HB:=n2_; clear n0_ n1_ n2_; (try clear hb); (try clear hb2); (try clear hk); (try clear hi)))
       go_roundg k1
       case measure=>have:=HK1.out; omega
       case rel=>exact ⟨(ji11),(ji12),(wrap64 (x17_1+1)),(by first|rfl|(simp; done)|(simp only [← hji11]<;>(first|rfl|simp))|(simp [*]; done)),(by first|rfl|(simp; done)|(simp only [← hji12]<;>(first|rfl|simp))|(simp [*]; done)),(by first|rfl|(simp; done)|(simp [*]; done)),H',⟨by have:=HK1.out; omega⟩,⟨by (with_reducible repeat (first|refine blk_drewN ?_ _|refine blk_drew ?_|refine blk_alloc ?_ _)); exact BK253.out⟩,⟨by repeat (first|(with_reducible first|exact HB.out|apply below_alloc|apply pw_below_drewN|apply below_drew1|refine below_set ?_ GE253.out|refine below_set ?_ GE255.out)|exact HB.out)⟩⟩
      ·rw [if_neg c9] at H
       exact absurd H (by simp)
     ·rw [if_neg c8] at H
      exact absurd H (by simp)
    ·rw [if_neg c7] at H
     have c7b0:decide (x17_1<(l0_4.length:Int))=false:=decide_eq_false c7
     clear c7
     simp only [Option.some.injEq,Prod.mk.injEq] at H
     obtain ⟨rfl,rfl⟩:=H
     go_wp2
     go_ret2
     exact ⟨by first|rfl|(simp [errW_none,errW_some]<;>rfl)|(simp [*,errW_none,errW_some]<;>rfl),by repeat (first|(with_reducible first|exact HB.out|apply below_alloc|apply pw_below_drewN|apply below_drew1|refine below_set ?_ GE253.out)|exact HB.out)⟩
def impl_from.f (a0:Int) (a1:Int) (a2:Int):Option (Bool):=if a0 ≥ a1 then (some (decide (a0≤a2))) else (some false)
set_option maxHeartbeats 8000000 in
set_option maxRecDepth 100000 in
theorem impl_from.calls (a0:Int) (a1:Int) (a2:Int) (r:Bool) (w:World) (h:impl_from.f a0 a1 a2=some r) :
  Calls Try.prog 55 #[.int .i64 a0,.int .i64 a1,.int .i64 a2] w fun e w'=>e=.returned (.bool r)∧Drawn0 w w':=by
 have H:(if a0 ≥ a1 then (some (decide (a0≤a2))) else (some false))=some r:=h
 clear h
 by_cases c4:a0 ≥ a1
 ·rw [if_pos c4] at H
  have c4b0:decide (a1≤a0)=true:=decide_eq_true c4
  clear c4
  obtain rfl:=Option.some.inj H
  go_enter Try.func55,Try.ntmps55
  go_wp2
  go_ret
  exact ⟨by first|rfl|(simp; done)|(simp [*]; done),by repeat (first|exact Drawn0.refl _|apply Drawn0.step)⟩
 ·rw [if_neg c4] at H
  have c4b0:decide (a1≤a0)=false:=decide_eq_false c4
  clear c4
  obtain rfl:=Option.some.inj H
  go_enter Try.func55,Try.ntmps55
  go_wp2
  go_ret
  exact ⟨by first|rfl|(simp; done)|(simp [*]; done),by repeat (first|exact Drawn0.refl _|apply Drawn0.step)⟩
def impl_TextOk.l0:Nat→ByteArray→Int→Int→Option (Bool)
 |0,_,_,_=>none
 |k+1,x0,x5,x6=>if x6<x5 then (if 0≤x6 then (if x6<(x0.size:Int) then ((impl_from.f (wrap64 (bt x0 x6)) 32 126).bind fun t258=>(if t258=true then (impl_TextOk.l0 k x0 x5 (wrap64 (x6+1))) else (some false))) else (none)) else (none)) else (some (decide ((x0.size:Int)≤400)))
def impl_TextOk.f (k:Nat) (a0:ByteArray):Option (Bool):=impl_TextOk.l0 k a0 (a0.size:Int) 0
theorem impl_TextOk.mono_l:∀ k,(∀ y0 y1 y2,LeO (impl_TextOk.l0 k y0 y1 y2) (impl_TextOk.l0 (k+1) y0 y1 y2))
 |0=>fun _ _ _ r h=>by simp [impl_TextOk.l0] at h
 |k+1=>by
  have ih0:=impl_TextOk.mono_l k
  ·intro y0 y1 y2
   unfold impl_TextOk.l0
   repeat' first
   |(with_reducible exact ih0 _ _ _)
   |(with_reducible exact LeO.refl _)
   |(with_reducible exact LeO.none _)
   |(with_reducible refine LeO.ite ?_ ?_)
   |(with_reducible refine LeO.bind ?_ (fun _=>?_))
   |exact ih0 _ _ _
   |exact LeO.none _
   |refine LeO.ite ?_ ?_
   |refine LeO.bind ?_ (fun _=>?_)
theorem impl_TextOk.mono:∀ a0 k,LeO (impl_TextOk.f k a0) (impl_TextOk.f (k+1) a0):=by
 intro a0 k
 have ih0:=impl_TextOk.mono_l k
 unfold impl_TextOk.f
 repeat' first
   |(with_reducible exact ih0 _ _ _)
   |(with_reducible exact LeO.refl _)
   |(with_reducible exact LeO.none _)
   |(with_reducible refine LeO.ite ?_ ?_)
   |(with_reducible refine LeO.bind ?_ (fun _=>?_))
   |exact ih0 _ _ _
   |exact LeO.none _
   |refine LeO.ite ?_ ?_
   |refine LeO.bind ?_ (fun _=>?_)
set_option maxHeartbeats 8000000 in
set_option maxRecDepth 100000 in
theorem impl_TextOk.calls (k:Nat) (a0:ByteArray) (r:Bool) (w:World) (h:impl_TextOk.f k a0=some r) :
  Calls Try.prog 79 #[.string a0] w fun e w'=>e=.returned (.bool r)∧Drawn0 w w':=by
 have H:(impl_TextOk.l0 k a0 (a0.size:Int) 0)=some r:=h
 clear h
 have H':=Aside0.mk H
 clear H
 go_enter Try.func79,Try.ntmps79
 go_wp2
 go_loopg [6] k (fun kq v6 w'=>∃ (x6_1:Int),v6=.int .i64 x6_1∧Aside0 (impl_TextOk.l0 kq a0 (a0.size:Int) x6_1=some r)∧Aside0 (kq≤k)∧Drawn0 w w')
 case atStart=>exact ⟨(0),(by first|rfl|(simp; done)|(simp [*]; done)),H',⟨Nat.le_refl _⟩,by repeat (first|exact Drawn0.refl _|apply Drawn0.step)⟩
 case round =>
  clear H'
  obtain ⟨x6_1,rfl,HA,HK1,⟨m1,rfl⟩⟩:=hrel
  cases gk with
  |zero=>exact absurd HA.out (by simp [impl_TextOk.l0])
  |succ k1 =>
   have H:=HA.out
   clear HA
   simp only [impl_TextOk.l0] at H
   by_cases c2:x6_1<(a0.size:Int)
   ·rw [if_pos c2] at H
    have c2b0:decide (x6_1<(a0.size:Int))=true:=decide_eq_true c2
    clear c2
    by_cases c3:0≤x6_1
    ·rw [if_pos c3] at H
     have c3b0:decide (0≤x6_1)=true:=decide_eq_true c3
     clear c3
     by_cases c4:x6_1<(a0.size:Int)
     ·rw [if_pos c4] at H
      have c4b0:decide (x6_1<(a0.size:Int))=true:=decide_eq_true c4
      clear c4
      replace H:=Option.bind_eq_some_iff.mp H
      obtain ⟨t258,A60,H⟩:=H
      replace H:(if t258=true then (impl_TextOk.l0 k1 a0 (a0.size:Int) (wrap64 (x6_1+1))) else (some false))=some r:=H
      have A6:=Aside0.mk A60
      clear A60
      have HC7:=Aside0.mk H
      clear H
      have p5:0≤(x6_1:Int):=of_decide_eq_true (by first|(with_reducible assumption)|assumption)
      have q5:x6_1<(a0.size:Int):=of_decide_eq_true (by first|(with_reducible assumption)|assumption)
      have hx5:=bt_at a0 x6_1
      replace p5:=eq_true p5
      replace q5:=eq_true q5
      go_upto_if 14 with (first|((with_reducible refine gate_callee (f:=55) rfl ?_); refine goesL_ (some 13) rfl rfl Try.func55 (by kernel_rfl) rfl #[.int .i64 (wrap64 (bt a0 x6_1)),.int .i64 32,.int .i64 126] rfl (by (try simp only [List.map_toArray,List.map_cons,List.map_nil]); first|done|rfl|(simp only [List.length_drop,List.length_take]; rfl)) ?_; (with_reducible refine (impl_from.calls (wrap64 (bt a0 x6_1)) 32 126 t258 _ A6.out).mono ?_); rintro e w' ⟨rfl,⟨nd,rfl⟩⟩; refine ⟨_,rfl,?_⟩))
      (try simp only [Act.put,List.setIfInBounds_toArray,List.set_cons_zero,List.set_cons_succ])
      have H:=HC7.out
      clear HC7
      by_cases c8:t258=true
      ·subst c8
       have H1:(impl_TextOk.l0 k1 a0 (a0.size:Int) (wrap64 (x6_1+1)))=some r:=by rw [if_pos rfl] at H; exact H
       clear H
       have H:=H1
       clear H1
       have H':=Aside0.mk H
       clear H
       go_wp2
       go_roundg k1
       case measure=>have:=HK1.out; omega
       case rel=>exact ⟨(wrap64 (x6_1+1)),(by first|rfl|(simp; done)|(simp [*]; done)),H',⟨by have:=HK1.out; omega⟩,by repeat (first|exact Drawn0.refl _|apply Drawn0.step)⟩
      ·replace c8:=Bool.eq_false_iff.mpr c8
       subst c8
       have H1:(some false)=some r:=by rw [if_neg (show ¬ (false=true) by decide)] at H; exact H
       clear H
       have H:=H1
       clear H1
       obtain rfl:=Option.some.inj H
       go_wp2
       go_ret
       exact ⟨by first|rfl|(simp; done)|(simp [*]; done),by repeat (first|exact Drawn0.refl _|apply Drawn0.step)⟩
     ·rw [if_neg c4] at H
      exact absurd H (by simp)
    ·rw [if_neg c3] at H
     exact absurd H (by simp)
   ·rw [if_neg c2] at H
    have c2b0:decide (x6_1<(a0.size:Int))=false:=decide_eq_false c2
    clear c2
    obtain rfl:=Option.some.inj H
    go_wp2
    go_ret
    exact ⟨by first|rfl|(simp; done)|(simp [*]; done),by repeat (first|exact Drawn0.refl _|apply Drawn0.step)⟩
def shB (k n:Int) (e:Bool) (n3 n4:Nat):Bool :=
 if k=0 then decide (n=0) && e && decide (n3=0) && decide (n4=0)
 else if k=1 then decide (0≤n) && decide (n≤1) && e && decide (n3=0) && decide (n4=0)
 else if k=2 then decide (-1000000000000≤n) && decide (n≤1000000000000) && e && decide (n3=0) && decide (n4=0)
 else if k=3 then decide (n=0) && decide (n3=0) && decide (n4=0)
 else if k=4 then decide (n=0) && e && decide (n3=0)
 else if k=5 then decide (n3=n4) && decide (n=0) && e
 else false
theorem cast_beq0 (n:Nat):(((n:Int) == 0))=decide (n=0):=by
 by_cases h:n=0<;>simp [h]
set_option maxHeartbeats 8000000 in
set_option maxRecDepth 100000 in
theorem impl_shapeOk.k0 (a1:Int) (a2:ByteArray) (A3:Option Addr) (c3 n3:Nat) (A4:Option Addr) (c4 n4:Nat) (w:World) :
  Calls Try.prog 67 #[.agg #[.int .i64 0,.int .i64 a1,.string a2,.slice A3 n3 c3,.slice A4 n4 c4]] w fun e w'=>e=.returned (.bool (shB 0 a1 (a2.toList == []) n3 n4))∧Below w.heap.size w w':=by
 have hu:=Try.underlying33
 obtain ⟨b,hb⟩:∃ b,(a2.toList == [])=b:=⟨_,rfl⟩
 rw [hb]
 go_enter Try.func67,Try.ntmps67
 go_wp2
 go_loopg [4,5,63] 1 (fun kq v4 v5 v63 w'=>v63=.int .i64 0∧w'=(w.alloc (.cells #[.int .i64 0,.int .i64 a1,.string a2,.slice A3 n3 c3,.slice A4 n4 c4] 33)).alloc (.cells #[.int .i64 0,.int .i64 0,.string ⟨#[]⟩,.slice none 0 0,.slice none 0 0] 33))
 case atStart=>exact ⟨rfl,rfl⟩
 case round =>
  obtain ⟨rfl,rfl⟩:=hrel
  go_wp2
  all_goals
   go_ret
   refine ⟨?_,by repeat (first|(with_reducible first|exact Below.refl _ _|apply below_alloc|apply pw_below_drewN|apply below_drew1)|exact Below.refl _ _)⟩
   simp_all [shB,cast_beq0]
set_option maxHeartbeats 8000000 in
set_option maxRecDepth 100000 in
theorem impl_shapeOk.k1 (a1:Int) (a2:ByteArray) (A3:Option Addr) (c3 n3:Nat) (A4:Option Addr) (c4 n4:Nat) (w:World) :
  Calls Try.prog 67 #[.agg #[.int .i64 1,.int .i64 a1,.string a2,.slice A3 n3 c3,.slice A4 n4 c4]] w fun e w'=>e=.returned (.bool (shB 1 a1 (a2.toList == []) n3 n4))∧Below w.heap.size w w':=by
 have hu:=Try.underlying33
 obtain ⟨b,hb⟩:∃ b,(a2.toList == [])=b:=⟨_,rfl⟩
 rw [hb]
 by_cases g1:0≤a1
 ·have g1':decide (0≤a1)=true:=decide_eq_true g1
  by_cases g2:a1≤1
  ·have g2':decide (a1≤1)=true:=decide_eq_true g2
   go_enter Try.func67,Try.ntmps67
   go_wp2
   go_loopg [4,5,63] 1 (fun kq v4 v5 v63 w'=>v63=.int .i64 0∧w'=(w.alloc (.cells #[.int .i64 1,.int .i64 a1,.string a2,.slice A3 n3 c3,.slice A4 n4 c4] 33)).alloc (.cells #[.int .i64 1,.int .i64 a1,.string ⟨#[]⟩,.slice none 0 0,.slice none 0 0] 33))
   case atStart=>exact ⟨rfl,rfl⟩
   case round =>
    obtain ⟨rfl,rfl⟩:=hrel
    go_wp2
    all_goals
     go_ret
     refine ⟨?_,by repeat (first|(with_reducible first|exact Below.refl _ _|apply below_alloc|apply pw_below_drewN|apply below_drew1)|exact Below.refl _ _)⟩
     simp_all [shB,cast_beq0]
  ·have g2':decide (a1≤1)=false:=decide_eq_false g2
   go_enter Try.func67,Try.ntmps67
   go_wp2
   go_ret
   refine ⟨?_,by repeat (first|(with_reducible first|exact Below.refl _ _|apply below_alloc|apply pw_below_drewN|apply below_drew1)|exact Below.refl _ _)⟩
   simp_all [shB]
   try omega
 ·have g1':decide (0≤a1)=false:=decide_eq_false g1
  go_enter Try.func67,Try.ntmps67
  go_wp2
  go_ret
  refine ⟨?_,by repeat (first|(with_reducible first|exact Below.refl _ _|apply below_alloc|apply pw_below_drewN|apply below_drew1)|exact Below.refl _ _)⟩
  simp_all [shB]
  try omega
set_option maxHeartbeats 8000000 in
set_option maxRecDepth 100000 in
theorem impl_shapeOk.k2 (a1:Int) (a2:ByteArray) (A3:Option Addr) (c3 n3:Nat) (A4:Option Addr) (c4 n4:Nat) (w:World) :
  Calls Try.prog 67 #[.agg #[.int .i64 2,.int .i64 a1,.string a2,.slice A3 n3 c3,.slice A4 n4 c4]] w fun e w'=>e=.returned (.bool (shB 2 a1 (a2.toList == []) n3 n4))∧Below w.heap.size w w':=by
 have hu:=Try.underlying33
 obtain ⟨b,hb⟩:∃ b,(a2.toList == [])=b:=⟨_,rfl⟩
 rw [hb]
 by_cases g1 : -1000000000000≤a1
 ·have g1':decide (-1000000000000≤a1)=true:=decide_eq_true g1
  by_cases g2:a1≤1000000000000
  ·have g2':decide (a1≤1000000000000)=true:=decide_eq_true g2
   go_enter Try.func67,Try.ntmps67
   go_wp2
   go_loopg [4,5,63] 1 (fun kq v4 v5 v63 w'=>v63=.int .i64 0∧w'=(w.alloc (.cells #[.int .i64 2,.int .i64 a1,.string a2,.slice A3 n3 c3,.slice A4 n4 c4] 33)).alloc (.cells #[.int .i64 2,.int .i64 a1,.string ⟨#[]⟩,.slice none 0 0,.slice none 0 0] 33))
   case atStart=>exact ⟨rfl,rfl⟩
   case round =>
    obtain ⟨rfl,rfl⟩:=hrel
    go_wp2
    all_goals
     go_ret
     refine ⟨?_,by repeat (first|(with_reducible first|exact Below.refl _ _|apply below_alloc|apply pw_below_drewN|apply below_drew1)|exact Below.refl _ _)⟩
     simp_all [shB,cast_beq0]
  ·have g2':decide (a1≤1000000000000)=false:=decide_eq_false g2
   go_enter Try.func67,Try.ntmps67
   go_wp2
   go_ret
   refine ⟨?_,by repeat (first|(with_reducible first|exact Below.refl _ _|apply below_alloc|apply pw_below_drewN|apply below_drew1)|exact Below.refl _ _)⟩
   simp_all [shB]
   try omega
 ·have g1':decide (-1000000000000≤a1)=false:=decide_eq_false g1
  go_enter Try.func67,Try.ntmps67
  go_wp2
  go_ret
  refine ⟨?_,by repeat (first|(with_reducible first|exact Below.refl _ _|apply below_alloc|apply pw_below_drewN|apply below_drew1)|exact Below.refl _ _)⟩
  simp_all [shB]
  try omega
set_option maxHeartbeats 8000000 in
set_option maxRecDepth 100000 in
theorem impl_shapeOk.k3 (a1:Int) (a2:ByteArray) (A3:Option Addr) (c3 n3:Nat) (A4:Option Addr) (c4 n4:Nat) (w:World) (k:Nat) (ht:impl_TextOk.f k a2=some true) :
  Calls Try.prog 67 #[.agg #[.int .i64 3,.int .i64 a1,.string a2,.slice A3 n3 c3,.slice A4 n4 c4]] w fun e w'=>e=.returned (.bool (shB 3 a1 (a2.toList == []) n3 n4))∧Below w.heap.size w w':=by
 have hu:=Try.underlying33
 obtain ⟨b,hb⟩:∃ b,(a2.toList == [])=b:=⟨_,rfl⟩
 rw [hb]
 go_enter Try.func67,Try.ntmps67
 go_wp2_with (go_at_call 79; refine (impl_TextOk.calls k a2 true _ ht).mono ?_; rintro e w' ⟨rfl,⟨nd,rfl⟩⟩)
 go_loopg [4,5,63] 1 (fun kq v4 v5 v63 w'=>v63=.int .i64 0∧w'=(((w.alloc (.cells #[.int .i64 3,.int .i64 a1,.string a2,.slice A3 n3 c3,.slice A4 n4 c4] 33)).alloc (.cells #[.int .i64 3,.int .i64 0,.string ⟨#[]⟩,.slice none 0 0,.slice none 0 0] 33)).drewN nd).setCell ⟨w.heap.size+1,2,none⟩ (.string a2))
 case atStart=>exact ⟨rfl,rfl⟩
 case round =>
  obtain ⟨rfl,rfl⟩:=hrel
  go_wp2
  all_goals
   go_ret
   refine ⟨?_,(pw_below_drewN (below_alloc (below_alloc (Below.refl _ _) _) _) _).setCell (by simp) _⟩
   simp_all [shB,cast_beq0]
set_option maxHeartbeats 8000000 in
set_option maxRecDepth 100000 in
theorem impl_shapeOk.k3f (a1:Int) (a2:ByteArray) (A3:Option Addr) (c3 n3:Nat) (A4:Option Addr) (c4 n4:Nat) (w:World) (k:Nat) (ht:impl_TextOk.f k a2=some false) :
  Calls Try.prog 67 #[.agg #[.int .i64 3,.int .i64 a1,.string a2,.slice A3 n3 c3,.slice A4 n4 c4]] w fun e w'=>e=.returned (.bool false)∧Below w.heap.size w w':=by
 have hu:=Try.underlying33
 obtain ⟨b,hb⟩:∃ b,(a2.toList == [])=b:=⟨_,rfl⟩
 go_enter Try.func67,Try.ntmps67
 go_wp2_with (go_at_call 79; refine (impl_TextOk.calls k a2 false _ ht).mono ?_; rintro e w' ⟨rfl,⟨nd,rfl⟩⟩)
 go_ret
 refine ⟨?_,by repeat (first|(with_reducible first|exact Below.refl _ _|apply below_alloc|apply pw_below_drewN|apply below_drew1)|exact Below.refl _ _)⟩
 simp_all [shB]
 try omega
set_option maxHeartbeats 8000000 in
set_option maxRecDepth 100000 in
theorem impl_shapeOk.k4 (a1:Int) (a2:ByteArray) (A3:Option Addr) (c3 n3:Nat) (A4:Option Addr) (c4 n4:Nat) (w:World) :
  Calls Try.prog 67 #[.agg #[.int .i64 4,.int .i64 a1,.string a2,.slice A3 n3 c3,.slice A4 n4 c4]] w fun e w'=>e=.returned (.bool (shB 4 a1 (a2.toList == []) n3 n4))∧Below w.heap.size w w':=by
 have hu:=Try.underlying33
 obtain ⟨b,hb⟩:∃ b,(a2.toList == [])=b:=⟨_,rfl⟩
 rw [hb]
 go_enter Try.func67,Try.ntmps67
 go_wp2
 go_loopg [4,5,63] 1 (fun kq v4 v5 v63 w'=>v63=.int .i64 0∧w'=(w.alloc (.cells #[.int .i64 4,.int .i64 a1,.string a2,.slice A3 n3 c3,.slice A4 n4 c4] 33)).alloc (.cells #[.int .i64 4,.int .i64 0,.string ⟨#[]⟩,.slice none 0 0,.slice A4 n4 c4] 33))
 case atStart=>exact ⟨rfl,rfl⟩
 case round =>
  obtain ⟨rfl,rfl⟩:=hrel
  go_wp2
  all_goals
   go_ret
   refine ⟨?_,by repeat (first|(with_reducible first|exact Below.refl _ _|apply below_alloc|apply pw_below_drewN|apply below_drew1)|exact Below.refl _ _)⟩
   simp_all [shB,cast_beq0]
set_option maxHeartbeats 8000000 in
set_option maxRecDepth 100000 in
theorem impl_shapeOk.k5f (a1:Int) (a2:ByteArray) (A3:Option Addr) (c3 n3:Nat) (A4:Option Addr) (c4 n4:Nat) (w:World) (hne:¬ (n3=n4)) :
  Calls Try.prog 67 #[.agg #[.int .i64 5,.int .i64 a1,.string a2,.slice A3 n3 c3,.slice A4 n4 c4]] w fun e w'=>e=.returned (.bool false)∧Below w.heap.size w w':=by
 have hu:=Try.underlying33
 obtain ⟨b,hb⟩:∃ b,(a2.toList == [])=b:=⟨_,rfl⟩
 have hne':¬ ((n3:Int)=(n4:Int)):=by omega
 go_enter Try.func67,Try.ntmps67
 go_wp2
 go_ret
 refine ⟨?_,by repeat (first|(with_reducible first|exact Below.refl _ _|apply below_alloc|apply pw_below_drewN|apply below_drew1)|exact Below.refl _ _)⟩
 simp_all [shB]
 try omega
set_option maxHeartbeats 8000000 in
set_option maxRecDepth 100000 in
theorem impl_shapeOk.kx (a1:Int) (a2:ByteArray) (A3:Option Addr) (c3 n3:Nat) (A4:Option Addr) (c4 n4:Nat) (w:World) (a0:Int) (h0:¬ (a0=0)) (h1:¬ (a0=1)) (h2:¬ (a0=2)) (h3:¬ (a0=3)) (h4:¬ (a0=4)) (h5:¬ (a0=5)) :
  Calls Try.prog 67 #[.agg #[.int .i64 a0,.int .i64 a1,.string a2,.slice A3 n3 c3,.slice A4 n4 c4]] w fun e w'=>e=.returned (.bool false)∧Below w.heap.size w w':=by
 have hu:=Try.underlying33
 obtain ⟨b,hb⟩:∃ b,(a2.toList == [])=b:=⟨_,rfl⟩
 go_enter Try.func67,Try.ntmps67
 go_wp2
 go_ret
 refine ⟨?_,by repeat (first|(with_reducible first|exact Below.refl _ _|apply below_alloc|apply pw_below_drewN|apply below_drew1)|exact Below.refl _ _)⟩
 simp_all [shB]
 try omega
theorem of_not_true {b:Bool} (h:(!b)=true):b=false:=by simpa using h
theorem of_not_false {b:Bool} (h:(!b)=false):b=true:=by simpa using h
def impl_shapeOk.l0 (e:Bool):Nat→List ByteArray→Nat→Option Bool
 |0,_,_=>none
 |k+1,l,i=>if i<l.length then (impl_TextOk.f k (rdOf ByteArray.empty l (i:Int))).bind fun t=>(if t=true then (if 0<i then (if Op.bytesLess (rdOf ByteArray.empty l ((i:Int)-1)).toList (rdOf ByteArray.empty l (i:Int)).toList=true then impl_shapeOk.l0 e k l (i+1) else some false) else impl_shapeOk.l0 e k l (i+1)) else some false) else some e
set_option maxHeartbeats 8000000 in
set_option maxRecDepth 100000 in
theorem impl_shapeOk.k5 (k:Nat) (a1:Int) (a2:ByteArray) (A3:Option Addr) (c3:Nat) (l3:List ByteArray) (A4:Option Addr) (c4:Nat) (r:Bool) (w:World) (hr:Kd.C Kd.string w A3 l3.length l3) (hc:l3.length≤c3)
  (h:impl_shapeOk.l0 (decide (a1=0) && (a2.toList == [])) k l3 0=some r) :
  Calls Try.prog 67 #[.agg #[.int .i64 5,.int .i64 a1,.string a2,.slice A3 l3.length c3,.slice A4 l3.length c4]] w fun e w'=>e=.returned (.bool r)∧Below w.heap.size w w':=by
 have hu:=Try.underlying33
 obtain ⟨b,hb⟩:∃ b,(a2.toList == [])=b:=⟨_,rfl⟩
 rw [hb] at h
 have HC:=Aside0.mk hc
 have HR:=Aside0.mk hr
 have HH:=Aside0.mk h
 clear hr hc h
 go_enter Try.func67,Try.ntmps67
 go_wp2
 go_region
 go_wp2
 obtain ⟨W,hW⟩:∃ W,W=((w.alloc (.cells #[.int .i64 5,.int .i64 a1,.string a2,.slice A3 l3.length c3,.slice A4 l3.length c4] 33)).alloc (.cells #[.int .i64 5,.int .i64 0,.string ⟨#[]⟩,.slice A3 l3.length c3,.slice A4 l3.length c4] 33)).drew:=⟨_,rfl⟩
 have hb:Below w.heap.size w W:=by rw [hW]; exact below_drew1 (below_alloc (below_alloc (Below.refl _ _) _) _)
 have f1:W.cell? ⟨w.heap.size,1,none⟩=some (.int .i64 a1):=by rw [hW]; go_simp
 have f2:W.cell? ⟨w.heap.size,2,none⟩=some (.string a2):=by rw [hW]; go_simp
 have f3:W.cell? ⟨w.heap.size,3,none⟩=some (.slice A3 l3.length c3):=by rw [hW]; go_simp
 have f4:W.cell? ⟨w.heap.size,4,none⟩=some (.slice A4 l3.length c4):=by rw [hW]; go_simp
 have g1:W.cell? ⟨w.heap.size+1,1,none⟩=some (.int .i64 0):=by rw [hW]; go_simp
 have g2:W.cell? ⟨w.heap.size+1,2,none⟩=some (.string ⟨#[]⟩):=by rw [hW]; go_simp
 have g3:W.cell? ⟨w.heap.size+1,3,none⟩=some (.slice A3 l3.length c3):=by rw [hW]; go_simp
 have g4:W.cell? ⟨w.heap.size+1,4,none⟩=some (.slice A4 l3.length c4):=by rw [hW]; go_simp
 have HB:=Aside0.mk hb
 have HR1:=Aside0.mk (Kd.C_below HR.out hb)
 rw [← hW]
 clear hW hb
 have hlen:(l3.length:Int)≤9223372036854775807:=by have:=HR.out.2.1; omega
 go_loopg [4,5,63] k (fun kq v4 v5 v63 w'=>∃ i:Nat,v63=.int .i64 i∧Aside0 (impl_shapeOk.l0 (decide (a1=0) && b) kq l3 i=some r)∧Aside0 (i≤l3.length)∧Drawn0 W w')
 case atStart=>exact ⟨0,rfl,HH,⟨Nat.zero_le _⟩,Drawn0.refl _⟩
 case round =>
  obtain ⟨i,rfl,HA,HI,⟨m1,rfl⟩⟩:=hrel
  cases gk with
  |zero=>exact absurd HA.out (by simp [impl_shapeOk.l0])
  |succ k1 =>
   have H:=HA.out
   clear HA
   simp only [impl_shapeOk.l0] at H
   by_cases c2:i<l3.length
   ·rw [if_pos c2] at H
    obtain ⟨t,A,H⟩:=Option.bind_eq_some_iff.mp H
    obtain ⟨ad,e0,x0⟩:=Kd.at_string HR1.out (i:Int) (by omega) (by omega)
    cases e0
    have AA:=Aside0.mk A
    clear A
    rw [Int.toNat_natCast] at x0
    by_cases c0:0<i
    ·rw [if_pos c0] at H
     have c0b:decide (0<(i:Int))=true:=decide_eq_true (by omega)
     obtain ⟨ad1,e1,x1⟩:=Kd.at_string HR1.out ((i:Int)-1) (by omega) (by omega)
     obtain rfl:ad=ad1:=by injection e1
     have hsub:IntKind.i64.wrap ((i:Int)-1)=(i:Int)-1:=by rw [IntKind.wrap_i64]; omega
     have h0:0≤(i:Int)-1:=by omega
     have htn:((i:Int)-1).toNat=i-1:=by omega
     rw [htn] at x1
     clear c0
     cases t with
     |true =>
      rw [if_pos rfl] at H
      go_wp2_with (go_at_call 79; refine (impl_TextOk.calls k1 _ true _ AA.out).mono ?_; rintro e w' ⟨rfl,⟨nd,rfl⟩⟩)
      ·have hlt:=of_not_true ‹(!_)=true›
       rw [if_neg (by rw [hlt]; decide)] at H
       obtain rfl:=Option.some.inj H
       go_ret
       exact ⟨rfl,HB.out.trans (by repeat (first|(with_reducible first|exact Below.refl _ _|apply below_alloc|apply pw_below_drewN|apply below_drew1)|exact Below.refl _ _))⟩
      ·have hlt:=of_not_false ‹(!_)=false›
       rw [if_pos hlt] at H
       have HA2:=Aside0.mk H
       clear H
       go_roundg k1
       case rel=>exact ⟨i+1,by go_num,HA2,⟨by omega⟩,by repeat (first|exact Drawn0.refl _|apply Drawn0.step)⟩
       case measure=>omega
     |false =>
      rw [if_neg (by decide)] at H
      obtain rfl:=Option.some.inj H
      go_wp2_with (go_at_call 79; refine (impl_TextOk.calls k1 _ false _ AA.out).mono ?_; rintro e w' ⟨rfl,⟨nd,rfl⟩⟩)
      go_ret
      exact ⟨rfl,HB.out.trans (by repeat (first|(with_reducible first|exact Below.refl _ _|apply below_alloc|apply pw_below_drewN|apply below_drew1)|exact Below.refl _ _))⟩
    ·rw [if_neg c0] at H
     obtain rfl:i=0:=by omega
     rw [Addr.add_zero'] at x0
     have x00:W.cell? ad=some (.string (rdOf ByteArray.empty l3 0)):=x0
     clear x0
     have A0:impl_TextOk.f k1 (rdOf ByteArray.empty l3 0)=some t:=AA.out
     have AA:=Aside0.mk A0
     clear A0
     cases t with
     |true =>
      rw [if_pos rfl] at H
      have HA2:=Aside0.mk H
      clear H
      go_wp2_with (go_at_call 79; refine (impl_TextOk.calls k1 _ true _ AA.out).mono ?_; rintro e w' ⟨rfl,⟨nd,rfl⟩⟩)
      go_roundg k1
      case rel=>exact ⟨1,by go_num,HA2,⟨by omega⟩,by repeat (first|exact Drawn0.refl _|apply Drawn0.step)⟩
      case measure=>omega
     |false =>
      rw [if_neg (by decide)] at H
      obtain rfl:=Option.some.inj H
      go_wp2_with (go_at_call 79; refine (impl_TextOk.calls k1 _ false _ AA.out).mono ?_; rintro e w' ⟨rfl,⟨nd,rfl⟩⟩)
      go_ret
      exact ⟨rfl,HB.out.trans (by repeat (first|(with_reducible first|exact Below.refl _ _|apply below_alloc|apply pw_below_drewN|apply below_drew1)|exact Below.refl _ _))⟩
   ·rw [if_neg c2] at H
    obtain rfl:=Option.some.inj H
    have HI2:i=l3.length:=by have:=HI.out; omega
    subst HI2
    go_wp2
    all_goals
     go_ret
     refine ⟨?_,HB.out.trans (by repeat (first|(with_reducible first|exact Below.refl _ _|apply below_alloc|apply pw_below_drewN|apply below_drew1)|exact Below.refl _ _))⟩
     simp_all
def impl_shapeOk.f (k:Nat) (a0_0 a0_1:Int) (a0_2:ByteArray) (l0_3:List ByteArray) (l0_4:List S33):Option Bool :=
 if a0_0=3 then (impl_TextOk.f k a0_2).bind fun t=>(if t=true then some (shB 3 a0_1 (a0_2.toList == []) l0_3.length l0_4.length) else some false)
 else if a0_0=5 then (if l0_3.length=l0_4.length then impl_shapeOk.l0 (decide (a0_1=0) && (a0_2.toList == [])) k l0_3 0 else some false)
 else some (shB a0_0 a0_1 (a0_2.toList == []) l0_3.length l0_4.length)
theorem impl_shapeOk.mono_l (e:Bool):∀ k,(∀ l i,LeO (impl_shapeOk.l0 e k l i) (impl_shapeOk.l0 e (k+1) l i))
 |0=>fun _ _ r h=>by simp [impl_shapeOk.l0] at h
 |k+1=>by
  have ih0:=impl_shapeOk.mono_l e k
  intro l i
  unfold impl_shapeOk.l0
  repeat' first
   |(with_reducible exact ih0 _ _)
   |(with_reducible exact impl_TextOk.mono _ _)
   |(with_reducible exact LeO.refl _)
   |(with_reducible exact LeO.none _)
   |(with_reducible refine LeO.ite ?_ ?_)
   |(with_reducible refine LeO.bind ?_ (fun _=>?_))
   |exact ih0 _ _
   |exact impl_TextOk.mono _ _
   |exact LeO.none _
   |refine LeO.ite ?_ ?_
   |refine LeO.bind ?_ (fun _=>?_)
theorem impl_shapeOk.mono:∀ a0 a1 a2 a3 a4 k,LeO (impl_shapeOk.f k a0 a1 a2 a3 a4) (impl_shapeOk.f (k+1) a0 a1 a2 a3 a4):=by
 intro a0 a1 a2 a3 a4 k
 have ih0:=impl_shapeOk.mono_l (decide (a1=0) && (a2.toList == [])) k
 unfold impl_shapeOk.f
 repeat' first
   |(with_reducible exact ih0 _ _)
   |(with_reducible exact impl_TextOk.mono _ _)
   |(with_reducible exact LeO.refl _)
   |(with_reducible exact LeO.none _)
   |(with_reducible refine LeO.ite ?_ ?_)
   |(with_reducible refine LeO.bind ?_ (fun _=>?_))
theorem impl_shapeOk.calls (k:Nat) (a0_0:Int) (a0_1:Int) (a0_2:ByteArray) (A0_3:Option Addr) (c0_3:Nat) (l0_3:List ByteArray) (A0_4:Option Addr) (c0_4:Nat) (l0_4:List S33) (r:Bool) (w:World) (hr0_3:Kd.C Kd.string w A0_3 l0_3.length l0_3) (hc0_3:l0_3.length≤c0_3) (hr0_4:Kd.C k33 w A0_4 l0_4.length l0_4) (hc0_4:l0_4.length≤c0_4) (h:impl_shapeOk.f k a0_0 a0_1 a0_2 l0_3 l0_4=some r) :
  Calls Try.prog 67 #[.agg #[.int .i64 a0_0,.int .i64 a0_1,.string a0_2,.slice A0_3 l0_3.length c0_3,.slice A0_4 l0_4.length c0_4]] w fun e w'=>e=.returned (.bool r)∧Below w.heap.size w w':=by
 unfold impl_shapeOk.f at h
 by_cases h3:a0_0=3
 ·rw [if_pos h3] at h
  subst h3
  obtain ⟨t,ht,h⟩:=Option.bind_eq_some_iff.mp h
  cases t with
  |true=>rw [if_pos rfl] at h; obtain rfl:=Option.some.inj h; exact impl_shapeOk.k3 _ _ _ _ _ _ _ _ _ k ht
  |false=>rw [if_neg (by decide)] at h; obtain rfl:=Option.some.inj h; exact impl_shapeOk.k3f _ _ _ _ _ _ _ _ _ k ht
 ·rw [if_neg h3] at h
  by_cases h5:a0_0=5
  ·rw [if_pos h5] at h
   subst h5
   by_cases hl:l0_3.length=l0_4.length
   ·rw [if_pos hl] at h
    rw [← hl]
    exact impl_shapeOk.k5 k _ _ _ _ _ _ _ _ _ hr0_3 hc0_3 h
   ·rw [if_neg hl] at h
    obtain rfl:=Option.some.inj h
    exact impl_shapeOk.k5f _ _ _ _ _ _ _ _ _ hl
  ·rw [if_neg h5] at h
   obtain rfl:=Option.some.inj h
   by_cases h0:a0_0=0
   ·subst h0; exact impl_shapeOk.k0 _ _ _ _ _ _ _ _ _
   ·by_cases h1:a0_0=1
    ·subst h1; exact impl_shapeOk.k1 _ _ _ _ _ _ _ _ _
    ·by_cases h2:a0_0=2
     ·subst h2; exact impl_shapeOk.k2 _ _ _ _ _ _ _ _ _
     ·by_cases h4:a0_0=4
      ·subst h4; exact impl_shapeOk.k4 _ _ _ _ _ _ _ _ _
      ·have e:shB a0_0 a0_1 (a0_2.toList == []) l0_3.length l0_4.length=false:=by unfold shB; rw [if_neg h0,if_neg h1,if_neg h2,if_neg h3,if_neg h4,if_neg h5]
       rw [e]
       exact impl_shapeOk.kx _ _ _ _ _ _ _ _ _ _ h0 h1 h2 h3 h4 h5
end
end Go.Proofs.Ytdlhidjphaaklaa.P
