import Derived.Test.YtdlhidjphaaklaaP0
import Derived.Test.YtdlhidjphaaklaaP_impl_PaceOf
import Derived.Test.YtdlhidjphaaklaaP_laws_eqPace
import Derived.Test.YtdlhidjphaaklaaP_laws_eqStringS
import Derived.Test.YtdlhidjphaaklaaP_laws_szStringS
import Derived.Test.YtdlhidjphaaklaaP_laws_toNode
import Derived.Test.YtdlhidjphaaklaaP_spec_PaceOf
namespace Go.Proofs.Ytdlhidjphaaklaa.P
open Go.RowKit Go.Proofs.YtdlhidjphaaklaaW.PrintWords Go.Proofs.YtdlhidjphaaklaaW.PrintLast Go.Proofs.YtdlhidjphaaklaaW.PrintMore
attribute [local go_sem] max2_int min2_int max_two min_two max_three min_three max_four min_four
set_option linter.unusedVariables false
set_option linter.unusedSimpArgs false
noncomputable section
def laws_FnExactPaceOf.j0:Nat→Bool→Int→Int→ByteArray→List ByteArray→List (S25)→Int→Int→ByteArray→List ByteArray→List (S33)→Option (Bool)
 |0,_,_,_,_,_,_,_,_,_,_,_=>none
 |k+1,x35,x336000,x336001,x336002,x336003,x336004,x362000,x362001,x362002,x362003,x362004=>if x35=true then (some false) else ((laws_toNode.f k x336000 x336001 x336002 x336003 x336004).bind fun bt369=>((laws_eqNode.f k x362000 x362001 x362002 x362003 x362004 bt369.1 bt369.2.1 bt369.2.2.1 bt369.2.2.2.1 bt369.2.2.2.2).bind fun t378=>(if t378=true then (some true) else (some false))))
def laws_FnExactPaceOf.f (k:Nat) (a0_0:Int) (a0_1:Int) (a0_2:ByteArray) (l0_3:List ByteArray) (l0_4:List (S25)):Option (Bool):=(laws_szNode.f k a0_0 a0_1 a0_2 l0_3 l0_4 1048576).bind fun t336=>(if t336<0 then (some true) else ((laws_toNode.f k a0_0 a0_1 a0_2 l0_3 l0_4).bind fun bt337=>((spec_PaceOf.f k bt337.1 bt337.2.1 bt337.2.2.1 bt337.2.2.2.1 bt337.2.2.2.2).bind fun bt346=>((laws_toNode.f k a0_0 a0_1 a0_2 l0_3 l0_4).bind fun bt352=>((impl_PaceOf.f k bt352.1 bt352.2.1 bt352.2.2.1 bt352.2.2.2.1 bt352.2.2.2.2).bind fun bt362=>((laws_eqPace.f bt362.1 bt362.2.1 bt362.2.2.1 bt362.2.2.2.1 bt346.1 bt346.2.1 bt346.2.2.1 bt346.2.2.2.1).bind fun t368=>(if t368=true then (laws_FnExactPaceOf.j0 k (bt362.2.2.2.2.toList != bt346.2.2.2.2.toList) a0_0 a0_1 a0_2 l0_3 l0_4 bt352.1 bt352.2.1 bt352.2.2.1 bt352.2.2.2.1 bt352.2.2.2.2) else (laws_FnExactPaceOf.j0 k true a0_0 a0_1 a0_2 l0_3 l0_4 bt352.1 bt352.2.1 bt352.2.2.1 bt352.2.2.2.1 bt352.2.2.2.2))))))))
theorem laws_FnExactPaceOf.mono_l:∀ k,(∀ y0 y1 y2 y3 y4 y5 y6 y7 y8 y9 y10,LeO (laws_FnExactPaceOf.j0 k y0 y1 y2 y3 y4 y5 y6 y7 y8 y9 y10) (laws_FnExactPaceOf.j0 (k+1) y0 y1 y2 y3 y4 y5 y6 y7 y8 y9 y10))
 |0=>fun _ _ _ _ _ _ _ _ _ _ _ r h=>by simp [laws_FnExactPaceOf.j0] at h
 |k+1=>by
  have ih0:=laws_FnExactPaceOf.mono_l k
  ·intro y0 y1 y2 y3 y4 y5 y6 y7 y8 y9 y10
   unfold laws_FnExactPaceOf.j0
   repeat' first
   |(with_reducible exact ih0 _ _ _ _ _ _ _ _ _ _ _)
   |(with_reducible exact impl_PaceOf.mono _ _ _ _ _ _)
   |(with_reducible exact laws_eqNode.mono _ _ _ _ _ _ _ _ _ _ _)
   |(with_reducible exact laws_szNode.mono _ _ _ _ _ _ _)
   |(with_reducible exact laws_toNode.mono _ _ _ _ _ _)
   |(with_reducible exact spec_PaceOf.mono _ _ _ _ _ _)
   |(with_reducible exact LeO.refl _)
   |(with_reducible exact LeO.none _)
   |(with_reducible refine LeO.ite ?_ ?_)
   |(with_reducible refine LeO.bind ?_ (fun _=>?_))
   |exact ih0 _ _ _ _ _ _ _ _ _ _ _
   |exact impl_PaceOf.mono _ _ _ _ _ _
   |exact laws_eqNode.mono _ _ _ _ _ _ _ _ _ _ _
   |exact laws_szNode.mono _ _ _ _ _ _ _
   |exact laws_toNode.mono _ _ _ _ _ _
   |exact spec_PaceOf.mono _ _ _ _ _ _
   |exact LeO.none _
   |refine LeO.ite ?_ ?_
   |refine LeO.bind ?_ (fun _=>?_)
theorem laws_FnExactPaceOf.mono:∀ a0 a1 a2 a3 a4 k,LeO (laws_FnExactPaceOf.f k a0 a1 a2 a3 a4) (laws_FnExactPaceOf.f (k+1) a0 a1 a2 a3 a4):=by
 intro a0 a1 a2 a3 a4 k
 have ih0:=laws_FnExactPaceOf.mono_l k
 unfold laws_FnExactPaceOf.f
 repeat' first
   |(with_reducible exact ih0 _ _ _ _ _ _ _ _ _ _ _)
   |(with_reducible exact impl_PaceOf.mono _ _ _ _ _ _)
   |(with_reducible exact laws_eqNode.mono _ _ _ _ _ _ _ _ _ _ _)
   |(with_reducible exact laws_szNode.mono _ _ _ _ _ _ _)
   |(with_reducible exact laws_toNode.mono _ _ _ _ _ _)
   |(with_reducible exact spec_PaceOf.mono _ _ _ _ _ _)
   |(with_reducible exact LeO.refl _)
   |(with_reducible exact LeO.none _)
   |(with_reducible refine LeO.ite ?_ ?_)
   |(with_reducible refine LeO.bind ?_ (fun _=>?_))
   |exact ih0 _ _ _ _ _ _ _ _ _ _ _
   |exact impl_PaceOf.mono _ _ _ _ _ _
   |exact laws_eqNode.mono _ _ _ _ _ _ _ _ _ _ _
   |exact laws_szNode.mono _ _ _ _ _ _ _
   |exact laws_toNode.mono _ _ _ _ _ _
   |exact spec_PaceOf.mono _ _ _ _ _ _
   |exact LeO.none _
   |refine LeO.ite ?_ ?_
   |refine LeO.bind ?_ (fun _=>?_)
set_option maxHeartbeats 8000000 in
set_option maxRecDepth 100000 in
theorem laws_FnExactPaceOf.calls (k:Nat) (a0_0:Int) (a0_1:Int) (a0_2:ByteArray) (A0_3:Option Addr) (c0_3:Nat) (l0_3:List ByteArray) (A0_4:Option Addr) (c0_4:Nat) (l0_4:List (S25)) (r:Bool) (w:World) (hr0_3:Kd.C Kd.string w A0_3 l0_3.length l0_3) (hc0_3:l0_3.length≤c0_3) (hr0_4:Kd.C k25 w A0_4 l0_4.length l0_4) (hc0_4:l0_4.length≤c0_4) (h:laws_FnExactPaceOf.f k a0_0 a0_1 a0_2 l0_3 l0_4=some r) :
  Calls Try.prog 3 #[.agg #[.int .i64 a0_0,.int .i64 a0_1,.string a0_2,.slice A0_3 l0_3.length c0_3,.slice A0_4 l0_4.length c0_4]] w fun e w'=>e=.returned (.bool r)∧Below w.heap.size w w':=by
 have hu25:=Try.underlying25
 have hu28:=Try.underlying28
 have hu33:=Try.underlying33
 have HR0_3:=Aside0.mk hr0_3
 have HC0_3:=Aside0.mk hc0_3
 clear hr0_3 hc0_3
 have HR0_4:=Aside0.mk hr0_4
 have HC0_4:=Aside0.mk hc0_4
 clear hr0_4 hc0_4
 have HB:=Aside0.mk (Below.refl w.heap.size w)
 have H:((laws_szNode.f k a0_0 a0_1 a0_2 l0_3 l0_4 1048576).bind fun t336=>(if t336<0 then (some true) else ((laws_toNode.f k a0_0 a0_1 a0_2 l0_3 l0_4).bind fun bt337=>((spec_PaceOf.f k bt337.1 bt337.2.1 bt337.2.2.1 bt337.2.2.2.1 bt337.2.2.2.2).bind fun bt346=>((laws_toNode.f k a0_0 a0_1 a0_2 l0_3 l0_4).bind fun bt352=>((impl_PaceOf.f k bt352.1 bt352.2.1 bt352.2.2.1 bt352.2.2.2.1 bt352.2.2.2.2).bind fun bt362=>((laws_eqPace.f bt362.1 bt362.2.1 bt362.2.2.1 bt362.2.2.2.1 bt346.1 bt346.2.1 bt346.2.2.1 bt346.2.2.2.1).bind fun t368=>(if t368=true then (laws_FnExactPaceOf.j0 k (bt362.2.2.2.2.toList != bt346.2.2.2.2.toList) a0_0 a0_1 a0_2 l0_3 l0_4 bt352.1 bt352.2.1 bt352.2.2.1 bt352.2.2.2.1 bt352.2.2.2.2) else (laws_FnExactPaceOf.j0 k true a0_0 a0_1 a0_2 l0_3 l0_4 bt352.1 bt352.2.1 bt352.2.2.1 bt352.2.2.2.1 bt352.2.2.2.2)))))))))=some r:=h
 clear h
 replace H:=Option.bind_eq_some_iff.mp H
 obtain ⟨t336,A20,H⟩:=H
 replace H:(if t336<0 then (some true) else ((laws_toNode.f k a0_0 a0_1 a0_2 l0_3 l0_4).bind fun bt337=>((spec_PaceOf.f k bt337.1 bt337.2.1 bt337.2.2.1 bt337.2.2.2.1 bt337.2.2.2.2).bind fun bt346=>((laws_toNode.f k a0_0 a0_1 a0_2 l0_3 l0_4).bind fun bt352=>((impl_PaceOf.f k bt352.1 bt352.2.1 bt352.2.2.1 bt352.2.2.2.1 bt352.2.2.2.2).bind fun bt362=>((laws_eqPace.f bt362.1 bt362.2.1 bt362.2.2.1 bt362.2.2.2.1 bt346.1 bt346.2.1 bt346.2.2.1 bt346.2.2.2.1).bind fun t368=>(if t368=true then (laws_FnExactPaceOf.j0 k (bt362.2.2.2.2.toList != bt346.2.2.2.2.toList) a0_0 a0_1 a0_2 l0_3 l0_4 bt352.1 bt352.2.1 bt352.2.2.1 bt352.2.2.2.1 bt352.2.2.2.2) else (laws_FnExactPaceOf.j0 k true a0_0 a0_1 a0_2 l0_3 l0_4 bt352.1 bt352.2.1 bt352.2.2.1 bt352.2.2.2.1 bt352.2.2.2.2))))))))=some r:=H
 have A2:=Aside0.mk A20
 clear A20
 have HC3:=Aside0.mk H
 clear H
 go_enter Try.func3,Try.ntmps3
 go_upto_if 13 with (first|((with_reducible refine gate_dst (N:=1) rfl ?_); refine box_event ?hg (N:=1) ?hd (cs:=#[.int .i64 a0_0,.int .i64 a0_1,.string a0_2,.slice A0_3 l0_3.length c0_3,.slice A0_4 l0_4.length c0_4]) (t:=25) ?hr ?_; (case hd=>rfl); (case hg=>rfl); (case hr=>first|(go_simp; done)|(go_simp; rfl)); intro gb335 hg w4 hbox hb; have n0_:=Aside0.mk (below_step (by repeat (first|(with_reducible first|exact HB.out|apply below_alloc|apply pw_below_drewN|apply below_drew1)|exact HB.out)) hb); have n1_:=Aside0.mk (hbox); have n2_:=Aside0.mk ((by rw [hg]; exact (below_size (by repeat (first|(with_reducible first|exact HB.out|apply below_alloc|apply pw_below_drewN|apply below_drew1)|exact HB.out))):w.heap.size≤gb335)); have n3_:=Aside0.mk ((by rw [hg]; exact (below_size (by repeat (first|(with_reducible first|exact HB.out|apply below_alloc|apply pw_below_drewN|apply below_drew1)|exact HB.out))):w.heap.size≤gb335)); clear HB; have HB:=n0_; have BK335:=n1_; have GW335:=n2_; have GE335:=n3_; clear n0_ n1_ n2_ n3_; clear hb hbox hg; have hcz5_0:w4.cell? ⟨gb335,0,none⟩=some (.int .i64 a0_0):=(blk_cell BK335.out 0).trans rfl; have hcz5_1:w4.cell? ⟨gb335,1,none⟩=some (.int .i64 a0_1):=(blk_cell BK335.out 1).trans rfl; have hcz5_2:w4.cell? ⟨gb335,2,none⟩=some (.string a0_2):=(blk_cell BK335.out 2).trans rfl; have hcz5_3:w4.cell? ⟨gb335,3,none⟩=some (.slice A0_3 l0_3.length c0_3):=(blk_cell BK335.out 3).trans rfl; have hcz5_4:w4.cell? ⟨gb335,4,none⟩=some (.slice A0_4 l0_4.length c0_4):=(blk_cell BK335.out 4).trans rfl; have hfz5_0:=blk_frozen BK335.out 0; have hfz5_1:=blk_frozen BK335.out 1; have hfz5_2:=blk_frozen BK335.out 2; have hfz5_3:=blk_frozen BK335.out 3; have hfz5_4:=blk_frozen BK335.out 4)|((with_reducible refine gate_callee (f:=5) rfl ?_); refine goesL_ (some 11) rfl rfl Try.func5 (by kernel_rfl) rfl #[.agg #[.int .i64 a0_0,.int .i64 a0_1,.string a0_2,.slice A0_3 l0_3.length c0_3,.slice A0_4 l0_4.length c0_4],.int .i64 1048576] rfl (by (try simp only [List.map_toArray,List.map_cons,List.map_nil]); first|done|rfl|(simp only [List.length_drop,List.length_take]; rfl)) ?_; (with_reducible refine (laws_szNode.calls k a0_0 a0_1 a0_2 _ _ l0_3 _ _ l0_4 1048576 t336 _ ?side1 ?side2 ?side3 ?side4 A2.out).mono ?_); (case side1=>repeat (first|exact (Kd.C_below HR0_3.out HB.out)|(with_reducible refine Kd.C_alloc ?_ _)|(with_reducible refine Kd.C_drewN ?_ _)|(with_reducible refine Kd.C_drew ?_))); (case side2=>exact HC0_3.out); (case side3=>repeat (first|exact (Kd.C_below HR0_4.out HB.out)|(with_reducible refine Kd.C_alloc ?_ _)|(with_reducible refine Kd.C_drewN ?_ _)|(with_reducible refine Kd.C_drew ?_))); (case side4=>exact HC0_4.out); rintro e w6 ⟨rfl,hb⟩; refine ⟨_,rfl,?_⟩; have n0_:=Aside0.mk (blk_below (g:=gb335) (o:=.cells #[.int .i64 a0_0,.int .i64 a0_1,.string a0_2,.slice A0_3 l0_3.length c0_3,.slice A0_4 l0_4.length c0_4] 25 (0,0)) (by (with_reducible repeat (first|refine blk_drewN ?_ _|refine blk_drew ?_|refine blk_alloc ?_ _)); exact BK335.out) hb); have n1_:=Aside0.mk (below_step (by repeat (first|(with_reducible first|exact HB.out|apply below_alloc|apply pw_below_drewN|apply below_drew1|refine below_set ?_ GE335.out)|exact HB.out)) hb); clear BK335; clear HB; have BK335:=n0_; have HB:=n1_; clear n0_ n1_; (try clear hb); (try clear hb2); (try clear hk); (try clear hi)))
 (try simp only [Act.put,List.setIfInBounds_toArray,List.set_cons_zero,List.set_cons_succ])
 have H:=HC3.out
 clear HC3
 by_cases c7:t336<0
 ·rw [if_pos c7] at H
  have c7b0:decide (t336<0)=true:=decide_eq_true c7
  clear c7
  (first|rw [c7b0]|(simp only [i64_w,i32_w]; rw [c7b0])|skip)
  obtain rfl:=Option.some.inj H
  go_wp2
  go_ret
  exact ⟨by first|rfl|(simp [errW_none,errW_some]<;>rfl)|(simp [*,errW_none,errW_some]<;>rfl),by repeat (first|(with_reducible first|exact HB.out|apply below_alloc|apply pw_below_drewN|apply below_drew1|refine below_set ?_ GE335.out)|exact HB.out)⟩
 ·rw [if_neg c7] at H
  have c7b0:decide (t336<0)=false:=decide_eq_false c7
  clear c7
  (first|rw [c7b0]|(simp only [i64_w,i32_w]; rw [c7b0])|skip)
  replace H:=Option.bind_eq_some_iff.mp H
  obtain ⟨⟨t337,t338,t339,t340,t343⟩,A80,H⟩:=H
  replace H:((spec_PaceOf.f k t337 t338 t339 t340 t343).bind fun bt346=>((laws_toNode.f k a0_0 a0_1 a0_2 l0_3 l0_4).bind fun bt352=>((impl_PaceOf.f k bt352.1 bt352.2.1 bt352.2.2.1 bt352.2.2.2.1 bt352.2.2.2.2).bind fun bt362=>((laws_eqPace.f bt362.1 bt362.2.1 bt362.2.2.1 bt362.2.2.2.1 bt346.1 bt346.2.1 bt346.2.2.1 bt346.2.2.2.1).bind fun t368=>(if t368=true then (laws_FnExactPaceOf.j0 k (bt362.2.2.2.2.toList != bt346.2.2.2.2.toList) a0_0 a0_1 a0_2 l0_3 l0_4 bt352.1 bt352.2.1 bt352.2.2.1 bt352.2.2.2.1 bt352.2.2.2.2) else (laws_FnExactPaceOf.j0 k true a0_0 a0_1 a0_2 l0_3 l0_4 bt352.1 bt352.2.1 bt352.2.2.1 bt352.2.2.2.1 bt352.2.2.2.2))))))=some r:=H
  have A8:=Aside0.mk A80
  clear A80
  replace H:=Option.bind_eq_some_iff.mp H
  obtain ⟨⟨t346,t347,t348,t349,t350⟩,A90,H⟩:=H
  replace H:((laws_toNode.f k a0_0 a0_1 a0_2 l0_3 l0_4).bind fun bt352=>((impl_PaceOf.f k bt352.1 bt352.2.1 bt352.2.2.1 bt352.2.2.2.1 bt352.2.2.2.2).bind fun bt362=>((laws_eqPace.f bt362.1 bt362.2.1 bt362.2.2.1 bt362.2.2.2.1 t346 t347 t348 t349).bind fun t368=>(if t368=true then (laws_FnExactPaceOf.j0 k (bt362.2.2.2.2.toList != t350.toList) a0_0 a0_1 a0_2 l0_3 l0_4 bt352.1 bt352.2.1 bt352.2.2.1 bt352.2.2.2.1 bt352.2.2.2.2) else (laws_FnExactPaceOf.j0 k true a0_0 a0_1 a0_2 l0_3 l0_4 bt352.1 bt352.2.1 bt352.2.2.1 bt352.2.2.2.1 bt352.2.2.2.2)))))=some r:=H
  have A9:=Aside0.mk A90
  clear A90
  replace H:=Option.bind_eq_some_iff.mp H
  obtain ⟨⟨t352,t353,t354,t355,t358⟩,A100,H⟩:=H
  replace H:((impl_PaceOf.f k t352 t353 t354 t355 t358).bind fun bt362=>((laws_eqPace.f bt362.1 bt362.2.1 bt362.2.2.1 bt362.2.2.2.1 t346 t347 t348 t349).bind fun t368=>(if t368=true then (laws_FnExactPaceOf.j0 k (bt362.2.2.2.2.toList != t350.toList) a0_0 a0_1 a0_2 l0_3 l0_4 t352 t353 t354 t355 t358) else (laws_FnExactPaceOf.j0 k true a0_0 a0_1 a0_2 l0_3 l0_4 t352 t353 t354 t355 t358))))=some r:=H
  have A10:=Aside0.mk A100
  clear A100
  replace H:=Option.bind_eq_some_iff.mp H
  obtain ⟨⟨t362,t363,t364,t365,t366⟩,A110,H⟩:=H
  replace H:((laws_eqPace.f t362 t363 t364 t365 t346 t347 t348 t349).bind fun t368=>(if t368=true then (laws_FnExactPaceOf.j0 k (t366.toList != t350.toList) a0_0 a0_1 a0_2 l0_3 l0_4 t352 t353 t354 t355 t358) else (laws_FnExactPaceOf.j0 k true a0_0 a0_1 a0_2 l0_3 l0_4 t352 t353 t354 t355 t358)))=some r:=H
  have A11:=Aside0.mk A110
  clear A110
  have HC12:=Aside0.mk H
  clear H
  have hcz13_0:w6.cell? ⟨gb335,0,none⟩=some (.int .i64 a0_0):=(blk_cell BK335.out 0).trans rfl
  have hcz13_1:w6.cell? ⟨gb335,1,none⟩=some (.int .i64 a0_1):=(blk_cell BK335.out 1).trans rfl
  have hcz13_2:w6.cell? ⟨gb335,2,none⟩=some (.string a0_2):=(blk_cell BK335.out 2).trans rfl
  have hcz13_3:w6.cell? ⟨gb335,3,none⟩=some (.slice A0_3 l0_3.length c0_3):=(blk_cell BK335.out 3).trans rfl
  have hcz13_4:w6.cell? ⟨gb335,4,none⟩=some (.slice A0_4 l0_4.length c0_4):=(blk_cell BK335.out 4).trans rfl
  have hfz13_0:=blk_frozen BK335.out 0
  have hfz13_1:=blk_frozen BK335.out 1
  have hfz13_2:=blk_frozen BK335.out 2
  have hfz13_3:=blk_frozen BK335.out 3
  have hfz13_4:=blk_frozen BK335.out 4
  go_upto_region 8 with (first|((with_reducible refine gate_callee (f:=7) rfl ?_); refine goesL_ (some 16) rfl rfl Try.func7 (by kernel_rfl) rfl #[.agg #[.int .i64 a0_0,.int .i64 a0_1,.string a0_2,.slice A0_3 l0_3.length c0_3,.slice A0_4 l0_4.length c0_4]] rfl (by (try simp only [List.map_toArray,List.map_cons,List.map_nil]); first|done|rfl|(simp only [List.length_drop,List.length_take]; rfl)) ?_; (with_reducible refine (laws_toNode.calls k a0_0 a0_1 a0_2 _ _ l0_3 _ _ l0_4 t337 t338 t339 t340 t343 _ ?side1 ?side2 ?side3 ?side4 A8.out).mono ?_); (case side1=>repeat (first|exact (Kd.C_below HR0_3.out HB.out)|(with_reducible refine Kd.C_alloc ?_ _)|(with_reducible refine Kd.C_drewN ?_ _)|(with_reducible refine Kd.C_drew ?_))); (case side2=>exact HC0_3.out); (case side3=>repeat (first|exact (Kd.C_below HR0_4.out HB.out)|(with_reducible refine Kd.C_alloc ?_ _)|(with_reducible refine Kd.C_drewN ?_ _)|(with_reducible refine Kd.C_drew ?_))); (case side4=>exact HC0_4.out); rintro e w14 ⟨v341,v344,rfl,ho0,ho1,hb⟩; refine ⟨_,rfl,?_⟩; have n0_:=Aside0.mk (Kd.R_lower ho0 (below_size (by repeat (first|(with_reducible first|exact HB.out|apply below_alloc|apply pw_below_drewN|apply below_drew1|refine below_set ?_ GE335.out)|exact HB.out)))); have n1_:=Aside0.mk (Kd.R_lower ho1 (below_size (by repeat (first|(with_reducible first|exact HB.out|apply below_alloc|apply pw_below_drewN|apply below_drew1|refine below_set ?_ GE335.out)|exact HB.out)))); have n2_:=Aside0.mk (blk_below (g:=gb335) (o:=.cells #[.int .i64 a0_0,.int .i64 a0_1,.string a0_2,.slice A0_3 l0_3.length c0_3,.slice A0_4 l0_4.length c0_4] 25 (0,0)) (by (with_reducible repeat (first|refine blk_drewN ?_ _|refine blk_drew ?_|refine blk_alloc ?_ _)); exact BK335.out) hb); have n3_:=Aside0.mk (below_step (by repeat (first|(with_reducible first|exact HB.out|apply below_alloc|apply pw_below_drewN|apply below_drew1|refine below_set ?_ GE335.out)|exact HB.out)) hb); clear BK335; clear HB; have HO342:=n0_; have HO345:=n1_; have BK335:=n2_; have HB:=n3_; clear n0_ n1_ n2_ n3_; (try clear hb); (try clear hb2); (try clear hk); (try clear hi); (try clear ho0); (try clear ho1); obtain ⟨Ao15,co15,eo15⟩:=Kd.R_slice HO342.out; subst eo15; obtain ⟨Ao16,co16,eo16⟩:=Kd.R_slice HO345.out; subst eo16)|((with_reducible refine gate_callee (f:=6) rfl ?_); refine goesL_ (some 17) rfl rfl Try.func6 (by kernel_rfl) rfl #[.agg #[.int .i64 t337,.int .i64 t338,.string t339,.slice Ao15 t340.length co15,.slice Ao16 t343.length co16]] rfl (by (try simp only [List.map_toArray,List.map_cons,List.map_nil]); first|done|rfl|(simp only [List.length_drop,List.length_take]; rfl)) ?_; (with_reducible refine (spec_PaceOf.calls k t337 t338 t339 _ _ t340 _ _ t343 t346 t347 t348 t349 t350 _ ?side1 ?side2 ?side3 ?side4 A9.out).mono ?_); (case side1=>repeat (first|exact (Kd.R_reads' HO342.out).2.2|(with_reducible refine Kd.C_alloc ?_ _)|(with_reducible refine Kd.C_drewN ?_ _)|(with_reducible refine Kd.C_drew ?_))); (case side2=>exact (Kd.R_reads' HO342.out).2.1); (case side3=>repeat (first|exact (Kd.R_reads' HO345.out).2.2|(with_reducible refine Kd.C_alloc ?_ _)|(with_reducible refine Kd.C_drewN ?_ _)|(with_reducible refine Kd.C_drew ?_))); (case side4=>exact (Kd.R_reads' HO345.out).2.1); rintro e w17 ⟨rfl,hb⟩; refine ⟨_,rfl,?_⟩; have n0_:=Aside0.mk (Kd.R_below (by (with_reducible repeat (first|apply Kd.R_alloc|apply Kd.R_drewN|apply Kd.R_drew)); exact HO342.out) hb); have n1_:=Aside0.mk (Kd.R_below (by (with_reducible repeat (first|apply Kd.R_alloc|apply Kd.R_drewN|apply Kd.R_drew)); exact HO345.out) hb); have n2_:=Aside0.mk (blk_below (g:=gb335) (o:=.cells #[.int .i64 a0_0,.int .i64 a0_1,.string a0_2,.slice A0_3 l0_3.length c0_3,.slice A0_4 l0_4.length c0_4] 25 (0,0)) (by (with_reducible repeat (first|refine blk_drewN ?_ _|refine blk_drew ?_|refine blk_alloc ?_ _)); exact BK335.out) hb); have n3_:=Aside0.mk (below_step (by repeat (first|(with_reducible first|exact HB.out|apply below_alloc|apply pw_below_drewN|apply below_drew1|refine below_set ?_ GE335.out)|exact HB.out)) hb); clear HO342; clear HO345; clear BK335; clear HB; have HO342:=n0_; have HO345:=n1_; have BK335:=n2_; have HB:=n3_; clear n0_ n1_ n2_ n3_; (try clear hb); (try clear hb2); (try clear hk); (try clear hi))|((with_reducible refine gate_dst (N:=4) rfl ?_); refine box_event ?hg (N:=4) ?hd (cs:=#[.int .i64 0,.int .i64 0,.int .i64 0,.int .i64 0]) (t:=28) ?hr ?_; (case hd=>rfl); (case hg=>rfl); (case hr=>first|(go_simp; done)|(go_simp; rfl)); intro gb351 hg w18 hbox hb; have n0_:=Aside0.mk (Kd.R_below (by (with_reducible repeat (first|apply Kd.R_alloc|apply Kd.R_drewN|apply Kd.R_drew)); exact HO342.out) hb); have n1_:=Aside0.mk (Kd.R_below (by (with_reducible repeat (first|apply Kd.R_alloc|apply Kd.R_drewN|apply Kd.R_drew)); exact HO345.out) hb); have n2_:=Aside0.mk (blk_below (g:=gb335) (o:=.cells #[.int .i64 a0_0,.int .i64 a0_1,.string a0_2,.slice A0_3 l0_3.length c0_3,.slice A0_4 l0_4.length c0_4] 25 (0,0)) (by (with_reducible repeat (first|refine blk_drewN ?_ _|refine blk_drew ?_|refine blk_alloc ?_ _)); exact BK335.out) hb); have n3_:=Aside0.mk (below_step (by repeat (first|(with_reducible first|exact HB.out|apply below_alloc|apply pw_below_drewN|apply below_drew1|refine below_set ?_ GE335.out)|exact HB.out)) hb); have n4_:=Aside0.mk (hbox); have n5_:=Aside0.mk ((by rw [hg]; exact (below_size (by repeat (first|(with_reducible first|exact HB.out|apply below_alloc|apply pw_below_drewN|apply below_drew1|refine below_set ?_ GE335.out)|exact HB.out))):w.heap.size≤gb351)); have n6_:=Aside0.mk ((by rw [hg]; exact (below_size (by repeat (first|(with_reducible first|exact HB.out|apply below_alloc|apply pw_below_drewN|apply below_drew1|refine below_set ?_ GE335.out)|exact HB.out))):w.heap.size≤gb351)); have n7_:=Aside0.mk ((by rw [hg]; exact Nat.ne_of_lt (blk_lt (g:=gb335) (o:=.cells #[.int .i64 a0_0,.int .i64 a0_1,.string a0_2,.slice A0_3 l0_3.length c0_3,.slice A0_4 l0_4.length c0_4] 25 (0,0)) (by (with_reducible repeat (first|refine blk_drewN ?_ _|refine blk_drew ?_|refine blk_alloc ?_ _)); exact BK335.out)):gb335 ≠ gb351)); have n8_:=Aside0.mk ((by rw [hg]; exact Nat.ne_of_gt (blk_lt (g:=gb335) (o:=.cells #[.int .i64 a0_0,.int .i64 a0_1,.string a0_2,.slice A0_3 l0_3.length c0_3,.slice A0_4 l0_4.length c0_4] 25 (0,0)) (by (with_reducible repeat (first|refine blk_drewN ?_ _|refine blk_drew ?_|refine blk_alloc ?_ _)); exact BK335.out)):gb351 ≠ gb335)); clear HO342; clear HO345; clear BK335; clear HB; have HO342:=n0_; have HO345:=n1_; have BK335:=n2_; have HB:=n3_; have BK351:=n4_; have GW351:=n5_; have GE351:=n6_; have NB335_351:=n7_; have NB351_335:=n8_; clear n0_ n1_ n2_ n3_ n4_ n5_ n6_ n7_ n8_; clear hb hbox hg; have hnb19:=NB351_335.out; have hnc19:=NB335_351.out; have hcz20_0:w18.cell? ⟨gb351,0,none⟩=some (.int .i64 0):=(blk_cell BK351.out 0).trans rfl; have hcz20_1:w18.cell? ⟨gb351,1,none⟩=some (.int .i64 0):=(blk_cell BK351.out 1).trans rfl; have hcz20_2:w18.cell? ⟨gb351,2,none⟩=some (.int .i64 0):=(blk_cell BK351.out 2).trans rfl; have hcz20_3:w18.cell? ⟨gb351,3,none⟩=some (.int .i64 0):=(blk_cell BK351.out 3).trans rfl; have hfz20_0:=blk_frozen BK351.out 0; have hfz20_1:=blk_frozen BK351.out 1; have hfz20_2:=blk_frozen BK351.out 2; have hfz20_3:=blk_frozen BK351.out 3; have hcz21_0:w18.cell? ⟨gb335,0,none⟩=some (.int .i64 a0_0):=(blk_cell BK335.out 0).trans rfl; have hcz21_1:w18.cell? ⟨gb335,1,none⟩=some (.int .i64 a0_1):=(blk_cell BK335.out 1).trans rfl; have hcz21_2:w18.cell? ⟨gb335,2,none⟩=some (.string a0_2):=(blk_cell BK335.out 2).trans rfl; have hcz21_3:w18.cell? ⟨gb335,3,none⟩=some (.slice A0_3 l0_3.length c0_3):=(blk_cell BK335.out 3).trans rfl; have hcz21_4:w18.cell? ⟨gb335,4,none⟩=some (.slice A0_4 l0_4.length c0_4):=(blk_cell BK335.out 4).trans rfl; have hfz21_0:=blk_frozen BK335.out 0; have hfz21_1:=blk_frozen BK335.out 1; have hfz21_2:=blk_frozen BK335.out 2; have hfz21_3:=blk_frozen BK335.out 3; have hfz21_4:=blk_frozen BK335.out 4)|((with_reducible refine gate_callee (f:=7) rfl ?_); refine goesL_ (some 21) rfl rfl Try.func7 (by kernel_rfl) rfl #[.agg #[.int .i64 a0_0,.int .i64 a0_1,.string a0_2,.slice A0_3 l0_3.length c0_3,.slice A0_4 l0_4.length c0_4]] rfl (by (try simp only [List.map_toArray,List.map_cons,List.map_nil]); first|done|rfl|(simp only [List.length_drop,List.length_take]; rfl)) ?_; (with_reducible refine (laws_toNode.calls k a0_0 a0_1 a0_2 _ _ l0_3 _ _ l0_4 t352 t353 t354 t355 t358 _ ?side1 ?side2 ?side3 ?side4 A10.out).mono ?_); (case side1=>exact Kd.C_below HR0_3.out (by repeat (first|(with_reducible first|exact HB.out|apply below_alloc|apply pw_below_drewN|apply below_drew1|refine below_set ?_ GE335.out|refine below_set ?_ GE351.out)|exact HB.out))); (case side2=>exact HC0_3.out); (case side3=>exact Kd.C_below HR0_4.out (by repeat (first|(with_reducible first|exact HB.out|apply below_alloc|apply pw_below_drewN|apply below_drew1|refine below_set ?_ GE335.out|refine below_set ?_ GE351.out)|exact HB.out))); (case side4=>exact HC0_4.out); rintro e w22 ⟨v356,v359,rfl,ho0,ho1,hb⟩; refine ⟨_,rfl,?_⟩; have n0_:=Aside0.mk (Kd.R_elder' (by (with_reducible repeat (first|apply Kd.R_alloc|apply Kd.R_drewN|apply Kd.R_drew)); exact (Kd.R_mono (Kd.R_far (p:=⟨gb351,3,none⟩) (Kd.R_far (p:=⟨gb351,2,none⟩) (Kd.R_far (p:=⟨gb351,1,none⟩) (Kd.R_far (p:=⟨gb351,0,none⟩) (Kd.R_types HO342.out BK351.out (by decide)) (fun _ hk=>hk.2) (.int .i64 t346)) (fun _ hk=>hk.2) (.int .i64 t347)) (fun _ hk=>hk.2) (.int .i64 t348)) (fun _ hk=>hk.2) (.int .i64 t349)) (fun _ h_=>h_.1))) (Kd.R_base ho0) hb); have n1_:=Aside0.mk (Kd.R_mono (Kd.R_told (Kd.R_told (Kd.R_old (by (with_reducible repeat (first|apply Kd.R_alloc|apply Kd.R_drewN|apply Kd.R_drew)); exact (Kd.R_mono (Kd.R_far (p:=⟨gb351,3,none⟩) (Kd.R_far (p:=⟨gb351,2,none⟩) (Kd.R_far (p:=⟨gb351,1,none⟩) (Kd.R_far (p:=⟨gb351,0,none⟩) (Kd.R_types HO345.out BK351.out (by decide)) (fun _ hk=>hk.2) (.int .i64 t346)) (fun _ hk=>hk.2) (.int .i64 t347)) (fun _ hk=>hk.2) (.int .i64 t348)) (fun _ hk=>hk.2) (.int .i64 t349)) (fun _ h_=>h_.1))) hb) (Kd.R_base ho0)) (Kd.R_base ho1)) (fun _ h_=>h_.1)); have n2_:=Aside0.mk (Kd.R_lower (Kd.R_new' ho0 (Kd.R_lt (by (with_reducible repeat (first|apply Kd.R_alloc|apply Kd.R_drewN|apply Kd.R_drew)); exact (Kd.R_mono (Kd.R_far (p:=⟨gb351,3,none⟩) (Kd.R_far (p:=⟨gb351,2,none⟩) (Kd.R_far (p:=⟨gb351,1,none⟩) (Kd.R_far (p:=⟨gb351,0,none⟩) (Kd.R_types HO342.out BK351.out (by decide)) (fun _ hk=>hk.2) (.int .i64 t346)) (fun _ hk=>hk.2) (.int .i64 t347)) (fun _ hk=>hk.2) (.int .i64 t348)) (fun _ hk=>hk.2) (.int .i64 t349)) (fun _ h_=>h_.1))))) (below_size (by repeat (first|(with_reducible first|exact HB.out|apply below_alloc|apply pw_below_drewN|apply below_drew1|refine below_set ?_ GE335.out|refine below_set ?_ GE351.out)|exact HB.out)))); have n3_:=Aside0.mk (Kd.R_lower (Kd.R_new' (Kd.R_new' ho1 (Kd.R_lt (by (with_reducible repeat (first|apply Kd.R_alloc|apply Kd.R_drewN|apply Kd.R_drew)); exact (Kd.R_mono (Kd.R_far (p:=⟨gb351,3,none⟩) (Kd.R_far (p:=⟨gb351,2,none⟩) (Kd.R_far (p:=⟨gb351,1,none⟩) (Kd.R_far (p:=⟨gb351,0,none⟩) (Kd.R_types HO342.out BK351.out (by decide)) (fun _ hk=>hk.2) (.int .i64 t346)) (fun _ hk=>hk.2) (.int .i64 t347)) (fun _ hk=>hk.2) (.int .i64 t348)) (fun _ hk=>hk.2) (.int .i64 t349)) (fun _ h_=>h_.1))))) (Kd.R_lt (by (with_reducible repeat (first|apply Kd.R_alloc|apply Kd.R_drewN|apply Kd.R_drew)); exact (Kd.R_mono (Kd.R_far (p:=⟨gb351,3,none⟩) (Kd.R_far (p:=⟨gb351,2,none⟩) (Kd.R_far (p:=⟨gb351,1,none⟩) (Kd.R_far (p:=⟨gb351,0,none⟩) (Kd.R_types HO345.out BK351.out (by decide)) (fun _ hk=>hk.2) (.int .i64 t346)) (fun _ hk=>hk.2) (.int .i64 t347)) (fun _ hk=>hk.2) (.int .i64 t348)) (fun _ hk=>hk.2) (.int .i64 t349)) (fun _ h_=>h_.1))))) (below_size (by repeat (first|(with_reducible first|exact HB.out|apply below_alloc|apply pw_below_drewN|apply below_drew1|refine below_set ?_ GE335.out|refine below_set ?_ GE351.out)|exact HB.out)))); have n4_:=Aside0.mk (blk_below (g:=gb335) (o:=.cells #[.int .i64 a0_0,.int .i64 a0_1,.string a0_2,.slice A0_3 l0_3.length c0_3,.slice A0_4 l0_4.length c0_4] 25 (0,0)) (by (with_reducible repeat (first|refine blk_drewN ?_ _|refine blk_drew ?_|refine blk_alloc ?_ _)); refine blk_far ?_ NB335_351.out _; (with_reducible repeat (first|refine blk_drewN ?_ _|refine blk_drew ?_|refine blk_alloc ?_ _)); refine blk_far ?_ NB335_351.out _; (with_reducible repeat (first|refine blk_drewN ?_ _|refine blk_drew ?_|refine blk_alloc ?_ _)); refine blk_far ?_ NB335_351.out _; (with_reducible repeat (first|refine blk_drewN ?_ _|refine blk_drew ?_|refine blk_alloc ?_ _)); refine blk_far ?_ NB335_351.out _; (with_reducible repeat (first|refine blk_drewN ?_ _|refine blk_drew ?_|refine blk_alloc ?_ _)); exact BK335.out) hb); have n5_:=Aside0.mk (blk_below (g:=gb351) (o:=.cells #[.int .i64 t346,.int .i64 t347,.int .i64 t348,.int .i64 t349] 28 (0,0)) (by (with_reducible repeat (first|refine blk_drewN ?_ _|refine blk_drew ?_|refine blk_alloc ?_ _)); refine blk_put (cs:=#[.int .i64 t346,.int .i64 t347,.int .i64 t348,.int .i64 0]) ?_ 3 _ rfl; (with_reducible repeat (first|refine blk_drewN ?_ _|refine blk_drew ?_|refine blk_alloc ?_ _)); refine blk_put (cs:=#[.int .i64 t346,.int .i64 t347,.int .i64 0,.int .i64 0]) ?_ 2 _ rfl; (with_reducible repeat (first|refine blk_drewN ?_ _|refine blk_drew ?_|refine blk_alloc ?_ _)); refine blk_put (cs:=#[.int .i64 t346,.int .i64 0,.int .i64 0,.int .i64 0]) ?_ 1 _ rfl; (with_reducible repeat (first|refine blk_drewN ?_ _|refine blk_drew ?_|refine blk_alloc ?_ _)); refine blk_put (cs:=#[.int .i64 0,.int .i64 0,.int .i64 0,.int .i64 0]) ?_ 0 _ rfl; (with_reducible repeat (first|refine blk_drewN ?_ _|refine blk_drew ?_|refine blk_alloc ?_ _)); exact BK351.out) hb); have n6_:=Aside0.mk (below_step (by repeat (first|(with_reducible first|exact HB.out|apply below_alloc|apply pw_below_drewN|apply below_drew1|refine below_set ?_ GE335.out|refine below_set ?_ GE351.out)|exact HB.out)) hb); clear HO342; clear HO345; clear BK335; clear BK351; clear HB; have HO342:=n0_; have HO345:=n1_; have HO357:=n2_; have HO360:=n3_; have BK335:=n4_; have BK351:=n5_; have HB:=n6_; clear n0_ n1_ n2_ n3_ n4_ n5_ n6_; (try clear hb); (try clear hb2); (try clear hk); (try clear hi); (try clear ho0); (try clear ho1))|((with_reducible refine gate_dst (N:=6) rfl ?_); refine box_event ?hg (N:=6) ?hd (cs:=#[.int .i64 0,.int .i64 0,.string (⟨#[]⟩:ByteArray),.slice none 0 0,.slice none 0 0]) (t:=33) ?hr ?_; (case hd=>rfl); (case hg=>rfl); (case hr=>first|(go_simp; done)|(go_simp; rfl)); intro gb361 hg w23 hbox hb; have n0_:=Aside0.mk (Kd.R_below (by (with_reducible repeat (first|apply Kd.R_alloc|apply Kd.R_drewN|apply Kd.R_drew)); exact HO342.out) hb); have n1_:=Aside0.mk (Kd.R_below (Kd.R_elderB (by (with_reducible repeat (first|apply Kd.R_alloc|apply Kd.R_drewN|apply Kd.R_drew)); exact HO345.out) gb361 (Nat.le_of_eq hg.symm)) hb); have n2_:=Aside0.mk (Kd.R_below (by (with_reducible repeat (first|apply Kd.R_alloc|apply Kd.R_drewN|apply Kd.R_drew)); exact HO357.out) hb); have n3_:=Aside0.mk (Kd.R_below (Kd.R_elderB (by (with_reducible repeat (first|apply Kd.R_alloc|apply Kd.R_drewN|apply Kd.R_drew)); exact HO360.out) gb361 (Nat.le_of_eq hg.symm)) hb); have n4_:=Aside0.mk (blk_below (g:=gb335) (o:=.cells #[.int .i64 a0_0,.int .i64 a0_1,.string a0_2,.slice A0_3 l0_3.length c0_3,.slice A0_4 l0_4.length c0_4] 25 (0,0)) (by (with_reducible repeat (first|refine blk_drewN ?_ _|refine blk_drew ?_|refine blk_alloc ?_ _)); exact BK335.out) hb); have n5_:=Aside0.mk (blk_below (g:=gb351) (o:=.cells #[.int .i64 t346,.int .i64 t347,.int .i64 t348,.int .i64 t349] 28 (0,0)) (by (with_reducible repeat (first|refine blk_drewN ?_ _|refine blk_drew ?_|refine blk_alloc ?_ _)); exact BK351.out) hb); have n6_:=Aside0.mk (below_step (by repeat (first|(with_reducible first|exact HB.out|apply below_alloc|apply pw_below_drewN|apply below_drew1|refine below_set ?_ GE335.out|refine below_set ?_ GE351.out)|exact HB.out)) hb); have n7_:=Aside0.mk (hbox); have n8_:=Aside0.mk ((by rw [hg]; exact (below_size (by repeat (first|(with_reducible first|exact HB.out|apply below_alloc|apply pw_below_drewN|apply below_drew1|refine below_set ?_ GE335.out|refine below_set ?_ GE351.out)|exact HB.out))):w.heap.size≤gb361)); have n9_:=Aside0.mk ((by rw [hg]; exact (below_size (by repeat (first|(with_reducible first|exact HB.out|apply below_alloc|apply pw_below_drewN|apply below_drew1|refine below_set ?_ GE335.out|refine below_set ?_ GE351.out)|exact HB.out))):w.heap.size≤gb361)); have n10_:=Aside0.mk ((by rw [hg]; exact Nat.ne_of_lt (blk_lt (g:=gb335) (o:=.cells #[.int .i64 a0_0,.int .i64 a0_1,.string a0_2,.slice A0_3 l0_3.length c0_3,.slice A0_4 l0_4.length c0_4] 25 (0,0)) (by (with_reducible repeat (first|refine blk_drewN ?_ _|refine blk_drew ?_|refine blk_alloc ?_ _)); exact BK335.out)):gb335 ≠ gb361)); have n11_:=Aside0.mk ((by rw [hg]; exact Nat.ne_of_gt (blk_lt (g:=gb335) (o:=.cells #[.int .i64 a0_0,.int .i64 a0_1,.string a0_2,.slice A0_3 l0_3.length c0_3,.slice A0_4 l0_4.length c0_4] 25 (0,0)) (by (with_reducible repeat (first|refine blk_drewN ?_ _|refine blk_drew ?_|refine blk_alloc ?_ _)); exact BK335.out)):gb361 ≠ gb335)); have n12_:=Aside0.mk ((by rw [hg]; exact Nat.ne_of_lt (blk_lt (g:=gb351) (o:=.cells #[.int .i64 t346,.int .i64 t347,.int .i64 t348,.int .i64 t349] 28 (0,0)) (by (with_reducible repeat (first|refine blk_drewN ?_ _|refine blk_drew ?_|refine blk_alloc ?_ _)); exact BK351.out)):gb351 ≠ gb361)); have n13_:=Aside0.mk ((by rw [hg]; exact Nat.ne_of_gt (blk_lt (g:=gb351) (o:=.cells #[.int .i64 t346,.int .i64 t347,.int .i64 t348,.int .i64 t349] 28 (0,0)) (by (with_reducible repeat (first|refine blk_drewN ?_ _|refine blk_drew ?_|refine blk_alloc ?_ _)); exact BK351.out)):gb361 ≠ gb351)); clear HO342; clear HO345; clear HO357; clear HO360; clear BK335; clear BK351; clear HB; have HO342:=n0_; have HO345:=n1_; have HO357:=n2_; have HO360:=n3_; have BK335:=n4_; have BK351:=n5_; have HB:=n6_; have BK361:=n7_; have GW361:=n8_; have GE361:=n9_; have NB335_361:=n10_; have NB361_335:=n11_; have NB351_361:=n12_; have NB361_351:=n13_; clear n0_ n1_ n2_ n3_ n4_ n5_ n6_ n7_ n8_ n9_ n10_ n11_ n12_ n13_; clear hb hbox hg; have hnb24:=NB361_335.out; have hnc24:=NB335_361.out; have hnb25:=NB361_351.out; have hnc25:=NB351_361.out; have hcz26_0:w23.cell? ⟨gb361,0,none⟩=some (.int .i64 0):=(blk_cell BK361.out 0).trans rfl; have hcz26_1:w23.cell? ⟨gb361,1,none⟩=some (.int .i64 0):=(blk_cell BK361.out 1).trans rfl; have hcz26_2:w23.cell? ⟨gb361,2,none⟩=some (.string (⟨#[]⟩:ByteArray)):=(blk_cell BK361.out 2).trans rfl; have hcz26_3:w23.cell? ⟨gb361,3,none⟩=some (.slice none 0 0):=(blk_cell BK361.out 3).trans rfl; have hcz26_4:w23.cell? ⟨gb361,4,none⟩=some (.slice none 0 0):=(blk_cell BK361.out 4).trans rfl; have hfz26_0:=blk_frozen BK361.out 0; have hfz26_1:=blk_frozen BK361.out 1; have hfz26_2:=blk_frozen BK361.out 2; have hfz26_3:=blk_frozen BK361.out 3; have hfz26_4:=blk_frozen BK361.out 4; obtain ⟨Ao27,co27,eo27⟩:=Kd.R_slice HO357.out; subst eo27; obtain ⟨Ao28,co28,eo28⟩:=Kd.R_slice HO360.out; subst eo28)|((with_reducible refine gate_callee (f:=8) rfl ?_); refine goesL_ (some 24) rfl rfl Try.func8 (by kernel_rfl) rfl #[.agg #[.int .i64 t352,.int .i64 t353,.string t354,.slice Ao27 t355.length co27,.slice Ao28 t358.length co28]] rfl (by (try simp only [List.map_toArray,List.map_cons,List.map_nil]); first|done|rfl|(simp only [List.length_drop,List.length_take]; rfl)) ?_; (with_reducible refine (impl_PaceOf.calls k t352 t353 t354 _ _ t355 _ _ t358 t362 t363 t364 t365 t366 _ ?side1 ?side2 ?side3 ?side4 A11.out).mono ?_); (case side1=>refine (Kd.R_reads' (e:=9) (base:=w.heap.size) (ok:=fun k_=>(True∧some k_ ≠ (.slice Ao15 t340.length co15:Value).ownBlock)) (n:=t355.length) (c:=co27) ?_).2.2; exact (by (with_reducible repeat (first|apply Kd.R_alloc|apply Kd.R_drewN|apply Kd.R_drew)); exact (Kd.R_mono (Kd.R_far (p:=⟨gb361,4,none⟩) (Kd.R_far (p:=⟨gb361,3,none⟩) (Kd.R_far (p:=⟨gb361,2,none⟩) (Kd.R_far (p:=⟨gb361,1,none⟩) (Kd.R_far (p:=⟨gb361,0,none⟩) (Kd.R_types HO357.out BK361.out (by decide)) (fun _ hk=>hk.2) (.int .i64 t352)) (fun _ hk=>hk.2) (.int .i64 t353)) (fun _ hk=>hk.2) (.string t354)) (fun _ hk=>hk.2) (.slice Ao27 t355.length co27)) (fun _ hk=>hk.2) (.slice Ao28 t358.length co28)) (fun _ h_=>h_.1)))); (case side2=>exact (Kd.R_reads' HO357.out).2.1); (case side3=>refine (Kd.R_reads' (e:=33) (base:=w.heap.size) (ok:=fun k_=>(((some k_ ≠ (.slice Ao27 t355.length co27:Value).ownBlock∧some k_ ≠ (.slice Ao15 t340.length co15:Value).ownBlock)∧some k_ ≠ (.slice Ao16 t343.length co16:Value).ownBlock)∧k_ ≠ gb361)) (n:=t358.length) (c:=co28) ?_).2.2; exact (by (with_reducible repeat (first|apply Kd.R_alloc|apply Kd.R_drewN|apply Kd.R_drew)); exact (Kd.R_mono (Kd.R_far (p:=⟨gb361,4,none⟩) (Kd.R_far (p:=⟨gb361,3,none⟩) (Kd.R_far (p:=⟨gb361,2,none⟩) (Kd.R_far (p:=⟨gb361,1,none⟩) (Kd.R_far (p:=⟨gb361,0,none⟩) (Kd.R_mono HO360.out (fun k_ hk=>(⟨hk,hk.2⟩:_∧k_ ≠ gb361))) (fun _ hk=>hk.2) (.int .i64 t352)) (fun _ hk=>hk.2) (.int .i64 t353)) (fun _ hk=>hk.2) (.string t354)) (fun _ hk=>hk.2) (.slice Ao27 t355.length co27)) (fun _ hk=>hk.2) (.slice Ao28 t358.length co28)) (fun _ h_=>h_.1)))); (case side4=>exact (Kd.R_reads' HO360.out).2.1); rintro e w29 ⟨rfl,hb⟩; refine ⟨_,rfl,?_⟩; have n0_:=Aside0.mk (Kd.R_below (by (with_reducible repeat (first|apply Kd.R_alloc|apply Kd.R_drewN|apply Kd.R_drew)); exact (Kd.R_mono (Kd.R_far (p:=⟨gb361,4,none⟩) (Kd.R_far (p:=⟨gb361,3,none⟩) (Kd.R_far (p:=⟨gb361,2,none⟩) (Kd.R_far (p:=⟨gb361,1,none⟩) (Kd.R_far (p:=⟨gb361,0,none⟩) (Kd.R_types HO342.out BK361.out (by decide)) (fun _ hk=>hk.2) (.int .i64 t352)) (fun _ hk=>hk.2) (.int .i64 t353)) (fun _ hk=>hk.2) (.string t354)) (fun _ hk=>hk.2) (.slice Ao27 t355.length co27)) (fun _ hk=>hk.2) (.slice Ao28 t358.length co28)) (fun _ h_=>h_.1))) hb); have n1_:=Aside0.mk (Kd.R_below (by (with_reducible repeat (first|apply Kd.R_alloc|apply Kd.R_drewN|apply Kd.R_drew)); exact (Kd.R_mono (Kd.R_far (p:=⟨gb361,4,none⟩) (Kd.R_far (p:=⟨gb361,3,none⟩) (Kd.R_far (p:=⟨gb361,2,none⟩) (Kd.R_far (p:=⟨gb361,1,none⟩) (Kd.R_far (p:=⟨gb361,0,none⟩) (Kd.R_mono HO345.out (fun k_ hk=>(⟨hk,hk.2⟩:_∧k_ ≠ gb361))) (fun _ hk=>hk.2) (.int .i64 t352)) (fun _ hk=>hk.2) (.int .i64 t353)) (fun _ hk=>hk.2) (.string t354)) (fun _ hk=>hk.2) (.slice Ao27 t355.length co27)) (fun _ hk=>hk.2) (.slice Ao28 t358.length co28)) (fun _ h_=>h_.1))) hb); have n2_:=Aside0.mk (Kd.R_below (by (with_reducible repeat (first|apply Kd.R_alloc|apply Kd.R_drewN|apply Kd.R_drew)); exact (Kd.R_mono (Kd.R_far (p:=⟨gb361,4,none⟩) (Kd.R_far (p:=⟨gb361,3,none⟩) (Kd.R_far (p:=⟨gb361,2,none⟩) (Kd.R_far (p:=⟨gb361,1,none⟩) (Kd.R_far (p:=⟨gb361,0,none⟩) (Kd.R_types HO357.out BK361.out (by decide)) (fun _ hk=>hk.2) (.int .i64 t352)) (fun _ hk=>hk.2) (.int .i64 t353)) (fun _ hk=>hk.2) (.string t354)) (fun _ hk=>hk.2) (.slice Ao27 t355.length co27)) (fun _ hk=>hk.2) (.slice Ao28 t358.length co28)) (fun _ h_=>h_.1))) hb); have n3_:=Aside0.mk (Kd.R_below (by (with_reducible repeat (first|apply Kd.R_alloc|apply Kd.R_drewN|apply Kd.R_drew)); exact (Kd.R_mono (Kd.R_far (p:=⟨gb361,4,none⟩) (Kd.R_far (p:=⟨gb361,3,none⟩) (Kd.R_far (p:=⟨gb361,2,none⟩) (Kd.R_far (p:=⟨gb361,1,none⟩) (Kd.R_far (p:=⟨gb361,0,none⟩) (Kd.R_mono HO360.out (fun k_ hk=>(⟨hk,hk.2⟩:_∧k_ ≠ gb361))) (fun _ hk=>hk.2) (.int .i64 t352)) (fun _ hk=>hk.2) (.int .i64 t353)) (fun _ hk=>hk.2) (.string t354)) (fun _ hk=>hk.2) (.slice Ao27 t355.length co27)) (fun _ hk=>hk.2) (.slice Ao28 t358.length co28)) (fun _ h_=>h_.1))) hb); have n4_:=Aside0.mk (blk_below (g:=gb335) (o:=.cells #[.int .i64 a0_0,.int .i64 a0_1,.string a0_2,.slice A0_3 l0_3.length c0_3,.slice A0_4 l0_4.length c0_4] 25 (0,0)) (by (with_reducible repeat (first|refine blk_drewN ?_ _|refine blk_drew ?_|refine blk_alloc ?_ _)); refine blk_far ?_ NB335_361.out _; (with_reducible repeat (first|refine blk_drewN ?_ _|refine blk_drew ?_|refine blk_alloc ?_ _)); refine blk_far ?_ NB335_361.out _; (with_reducible repeat (first|refine blk_drewN ?_ _|refine blk_drew ?_|refine blk_alloc ?_ _)); refine blk_far ?_ NB335_361.out _; (with_reducible repeat (first|refine blk_drewN ?_ _|refine blk_drew ?_|refine blk_alloc ?_ _)); refine blk_far ?_ NB335_361.out _; (with_reducible repeat (first|refine blk_drewN ?_ _|refine blk_drew ?_|refine blk_alloc ?_ _)); refine blk_far ?_ NB335_361.out _; (with_reducible repeat (first|refine blk_drewN ?_ _|refine blk_drew ?_|refine blk_alloc ?_ _)); exact BK335.out) hb); have n5_:=Aside0.mk (blk_below (g:=gb351) (o:=.cells #[.int .i64 t346,.int .i64 t347,.int .i64 t348,.int .i64 t349] 28 (0,0)) (by (with_reducible repeat (first|refine blk_drewN ?_ _|refine blk_drew ?_|refine blk_alloc ?_ _)); refine blk_far ?_ NB351_361.out _; (with_reducible repeat (first|refine blk_drewN ?_ _|refine blk_drew ?_|refine blk_alloc ?_ _)); refine blk_far ?_ NB351_361.out _; (with_reducible repeat (first|refine blk_drewN ?_ _|refine blk_drew ?_|refine blk_alloc ?_ _)); refine blk_far ?_ NB351_361.out _; (with_reducible repeat (first|refine blk_drewN ?_ _|refine blk_drew ?_|refine blk_alloc ?_ _)); refine blk_far ?_ NB351_361.out _; (with_reducible repeat (first|refine blk_drewN ?_ _|refine blk_drew ?_|refine blk_alloc ?_ _)); refine blk_far ?_ NB351_361.out _; (with_reducible repeat (first|refine blk_drewN ?_ _|refine blk_drew ?_|refine blk_alloc ?_ _)); exact BK351.out) hb); have n6_:=Aside0.mk (blk_below (g:=gb361) (o:=.cells #[.int .i64 t352,.int .i64 t353,.string t354,.slice Ao27 t355.length co27,.slice Ao28 t358.length co28] 33 (0,0)) (by (with_reducible repeat (first|refine blk_drewN ?_ _|refine blk_drew ?_|refine blk_alloc ?_ _)); refine blk_put (cs:=#[.int .i64 t352,.int .i64 t353,.string t354,.slice Ao27 t355.length co27,.slice none 0 0]) ?_ 4 _ rfl; (with_reducible repeat (first|refine blk_drewN ?_ _|refine blk_drew ?_|refine blk_alloc ?_ _)); refine blk_put (cs:=#[.int .i64 t352,.int .i64 t353,.string t354,.slice none 0 0,.slice none 0 0]) ?_ 3 _ rfl; (with_reducible repeat (first|refine blk_drewN ?_ _|refine blk_drew ?_|refine blk_alloc ?_ _)); refine blk_put (cs:=#[.int .i64 t352,.int .i64 t353,.string (⟨#[]⟩:ByteArray),.slice none 0 0,.slice none 0 0]) ?_ 2 _ rfl; (with_reducible repeat (first|refine blk_drewN ?_ _|refine blk_drew ?_|refine blk_alloc ?_ _)); refine blk_put (cs:=#[.int .i64 t352,.int .i64 0,.string (⟨#[]⟩:ByteArray),.slice none 0 0,.slice none 0 0]) ?_ 1 _ rfl; (with_reducible repeat (first|refine blk_drewN ?_ _|refine blk_drew ?_|refine blk_alloc ?_ _)); refine blk_put (cs:=#[.int .i64 0,.int .i64 0,.string (⟨#[]⟩:ByteArray),.slice none 0 0,.slice none 0 0]) ?_ 0 _ rfl; (with_reducible repeat (first|refine blk_drewN ?_ _|refine blk_drew ?_|refine blk_alloc ?_ _)); exact BK361.out) hb); have n7_:=Aside0.mk (below_step (by repeat (first|(with_reducible first|exact HB.out|apply below_alloc|apply pw_below_drewN|apply below_drew1|refine below_set ?_ GE335.out|refine below_set ?_ GE351.out|refine below_set ?_ GE361.out)|exact HB.out)) hb); clear HO342; clear HO345; clear HO357; clear HO360; clear BK335; clear BK351; clear BK361; clear HB; have HO342:=n0_; have HO345:=n1_; have HO357:=n2_; have HO360:=n3_; have BK335:=n4_; have BK351:=n5_; have BK361:=n6_; have HB:=n7_; clear n0_ n1_ n2_ n3_ n4_ n5_ n6_ n7_; (try clear hb); (try clear hb2); (try clear hk); (try clear hi))|((with_reducible refine gate_dst (N:=7) rfl ?_); refine box_event ?hg (N:=7) ?hd (cs:=#[.int .i64 0,.int .i64 0,.int .i64 0,.int .i64 0]) (t:=28) ?hr ?_; (case hd=>rfl); (case hg=>rfl); (case hr=>first|(go_simp; done)|(go_simp; rfl)); intro gb367 hg w30 hbox hb; have n0_:=Aside0.mk (Kd.R_below (by (with_reducible repeat (first|apply Kd.R_alloc|apply Kd.R_drewN|apply Kd.R_drew)); exact HO342.out) hb); have n1_:=Aside0.mk (Kd.R_below (by (with_reducible repeat (first|apply Kd.R_alloc|apply Kd.R_drewN|apply Kd.R_drew)); exact HO345.out) hb); have n2_:=Aside0.mk (Kd.R_below (by (with_reducible repeat (first|apply Kd.R_alloc|apply Kd.R_drewN|apply Kd.R_drew)); exact HO357.out) hb); have n3_:=Aside0.mk (Kd.R_below (by (with_reducible repeat (first|apply Kd.R_alloc|apply Kd.R_drewN|apply Kd.R_drew)); exact HO360.out) hb); have n4_:=Aside0.mk (blk_below (g:=gb335) (o:=.cells #[.int .i64 a0_0,.int .i64 a0_1,.string a0_2,.slice A0_3 l0_3.length c0_3,.slice A0_4 l0_4.length c0_4] 25 (0,0)) (by (with_reducible repeat (first|refine blk_drewN ?_ _|refine blk_drew ?_|refine blk_alloc ?_ _)); exact BK335.out) hb); have n5_:=Aside0.mk (blk_below (g:=gb351) (o:=.cells #[.int .i64 t346,.int .i64 t347,.int .i64 t348,.int .i64 t349] 28 (0,0)) (by (with_reducible repeat (first|refine blk_drewN ?_ _|refine blk_drew ?_|refine blk_alloc ?_ _)); exact BK351.out) hb); have n6_:=Aside0.mk (blk_below (g:=gb361) (o:=.cells #[.int .i64 t352,.int .i64 t353,.string t354,.slice Ao27 t355.length co27,.slice Ao28 t358.length co28] 33 (0,0)) (by (with_reducible repeat (first|refine blk_drewN ?_ _|refine blk_drew ?_|refine blk_alloc ?_ _)); exact BK361.out) hb); have n7_:=Aside0.mk (below_step (by repeat (first|(with_reducible first|exact HB.out|apply below_alloc|apply pw_below_drewN|apply below_drew1|refine below_set ?_ GE335.out|refine below_set ?_ GE351.out|refine below_set ?_ GE361.out)|exact HB.out)) hb); have n8_:=Aside0.mk (hbox); have n9_:=Aside0.mk ((by rw [hg]; exact (below_size (by repeat (first|(with_reducible first|exact HB.out|apply below_alloc|apply pw_below_drewN|apply below_drew1|refine below_set ?_ GE335.out|refine below_set ?_ GE351.out|refine below_set ?_ GE361.out)|exact HB.out))):w.heap.size≤gb367)); have n10_:=Aside0.mk ((by rw [hg]; exact (below_size (by repeat (first|(with_reducible first|exact HB.out|apply below_alloc|apply pw_below_drewN|apply below_drew1|refine below_set ?_ GE335.out|refine below_set ?_ GE351.out|refine below_set ?_ GE361.out)|exact HB.out))):w.heap.size≤gb367)); have n11_:=Aside0.mk ((by rw [hg]; exact Nat.ne_of_lt (blk_lt (g:=gb335) (o:=.cells #[.int .i64 a0_0,.int .i64 a0_1,.string a0_2,.slice A0_3 l0_3.length c0_3,.slice A0_4 l0_4.length c0_4] 25 (0,0)) (by (with_reducible repeat (first|refine blk_drewN ?_ _|refine blk_drew ?_|refine blk_alloc ?_ _)); exact BK335.out)):gb335 ≠ gb367)); have n12_:=Aside0.mk ((by rw [hg]; exact Nat.ne_of_gt (blk_lt (g:=gb335) (o:=.cells #[.int .i64 a0_0,.int .i64 a0_1,.string a0_2,.slice A0_3 l0_3.length c0_3,.slice A0_4 l0_4.length c0_4] 25 (0,0)) (by (with_reducible repeat (first|refine blk_drewN ?_ _|refine blk_drew ?_|refine blk_alloc ?_ _)); exact BK335.out)):gb367 ≠ gb335)); have n13_:=Aside0.mk ((by rw [hg]; exact Nat.ne_of_lt (blk_lt (g:=gb351) (o:=.cells #[.int .i64 t346,.int .i64 t347,.int .i64 t348,.int .i64 t349] 28 (0,0)) (by (with_reducible repeat (first|refine blk_drewN ?_ _|refine blk_drew ?_|refine blk_alloc ?_ _)); exact BK351.out)):gb351 ≠ gb367)); have n14_:=Aside0.mk ((by rw [hg]; exact Nat.ne_of_gt (blk_lt (g:=gb351) (o:=.cells #[.int .i64 t346,.int .i64 t347,.int .i64 t348,.int .i64 t349] 28 (0,0)) (by (with_reducible repeat (first|refine blk_drewN ?_ _|refine blk_drew ?_|refine blk_alloc ?_ _)); exact BK351.out)):gb367 ≠ gb351)); have n15_:=Aside0.mk ((by rw [hg]; exact Nat.ne_of_lt (blk_lt (g:=gb361) (o:=.cells #[.int .i64 t352,.int .i64 t353,.string t354,.slice Ao27 t355.length co27,.slice Ao28 t358.length co28] 33 (0,0)) (by (with_reducible repeat (first|refine blk_drewN ?_ _|refine blk_drew ?_|refine blk_alloc ?_ _)); exact BK361.out)):gb361 ≠ gb367)); have n16_:=Aside0.mk ((by rw [hg]; exact Nat.ne_of_gt (blk_lt (g:=gb361) (o:=.cells #[.int .i64 t352,.int .i64 t353,.string t354,.slice Ao27 t355.length co27,.slice Ao28 t358.length co28] 33 (0,0)) (by (with_reducible repeat (first|refine blk_drewN ?_ _|refine blk_drew ?_|refine blk_alloc ?_ _)); exact BK361.out)):gb367 ≠ gb361)); clear HO342; clear HO345; clear HO357; clear HO360; clear BK335; clear BK351; clear BK361; clear HB; have HO342:=n0_; have HO345:=n1_; have HO357:=n2_; have HO360:=n3_; have BK335:=n4_; have BK351:=n5_; have BK361:=n6_; have HB:=n7_; have BK367:=n8_; have GW367:=n9_; have GE367:=n10_; have NB335_367:=n11_; have NB367_335:=n12_; have NB351_367:=n13_; have NB367_351:=n14_; have NB361_367:=n15_; have NB367_361:=n16_; clear n0_ n1_ n2_ n3_ n4_ n5_ n6_ n7_ n8_ n9_ n10_ n11_ n12_ n13_ n14_ n15_ n16_; clear hb hbox hg; have hnb31:=NB367_335.out; have hnc31:=NB335_367.out; have hnb32:=NB367_351.out; have hnc32:=NB351_367.out; have hnb33:=NB367_361.out; have hnc33:=NB361_367.out; have hcz34_0:w30.cell? ⟨gb367,0,none⟩=some (.int .i64 0):=(blk_cell BK367.out 0).trans rfl; have hcz34_1:w30.cell? ⟨gb367,1,none⟩=some (.int .i64 0):=(blk_cell BK367.out 1).trans rfl; have hcz34_2:w30.cell? ⟨gb367,2,none⟩=some (.int .i64 0):=(blk_cell BK367.out 2).trans rfl; have hcz34_3:w30.cell? ⟨gb367,3,none⟩=some (.int .i64 0):=(blk_cell BK367.out 3).trans rfl; have hfz34_0:=blk_frozen BK367.out 0; have hfz34_1:=blk_frozen BK367.out 1; have hfz34_2:=blk_frozen BK367.out 2; have hfz34_3:=blk_frozen BK367.out 3))
  (try simp only [Act.put,List.setIfInBounds_toArray,List.set_cons_zero,List.set_cons_succ])
  go_cut [35] (fun v35 wc=>∃ (kq:Nat) (x35_11:Bool),v35=.bool x35_11∧Aside0 (laws_FnExactPaceOf.j0 kq x35_11 a0_0 a0_1 a0_2 l0_3 l0_4 t352 t353 t354 t355 t358=some r)∧Aside0 (kq≤k)∧Aside0 (Kd.R Kd.string 9 wc w.heap.size (fun _=>True) (.slice Ao27 t355.length co27) t355)∧Aside0 (Kd.R k33 33 wc w.heap.size (fun k_=>some k_ ≠ ((.slice Ao27 t355.length co27):Value).ownBlock∧k_ ≠ gb361) (.slice Ao28 t358.length co28) t358)∧Aside0 (wc.heap[gb335]?=some (.cells #[.int .i64 a0_0,.int .i64 a0_1,.string a0_2,(.slice A0_3 l0_3.length c0_3),(.slice A0_4 l0_4.length c0_4)] 25 (0,0)))∧Aside0 (wc.heap[gb351]?=some (.cells #[.int .i64 t346,.int .i64 t347,.int .i64 t348,.int .i64 t349] 28 (0,0)))∧Aside0 (wc.heap[gb361]?=some (.cells #[.int .i64 t352,.int .i64 t353,.string t354,(.slice Ao27 t355.length co27),(.slice Ao28 t358.length co28)] 33 (0,0)))∧Aside0 (wc.heap[gb367]?=some (.cells #[.int .i64 t362,.int .i64 t363,.int .i64 t364,.int .i64 t365] 28 (0,0)))∧Aside0 (Below w.heap.size w wc))
  case first =>
   have H:=HC12.out
   clear HC12
   replace H:=Option.bind_eq_some_iff.mp H
   obtain ⟨t368,A350,H⟩:=H
   replace H:(if t368=true then (laws_FnExactPaceOf.j0 k (t366.toList != t350.toList) a0_0 a0_1 a0_2 l0_3 l0_4 t352 t353 t354 t355 t358) else (laws_FnExactPaceOf.j0 k true a0_0 a0_1 a0_2 l0_3 l0_4 t352 t353 t354 t355 t358))=some r:=H
   have A35:=Aside0.mk A350
   clear A350
   by_cases c36:t368=true
   ·subst c36
    have H1:(laws_FnExactPaceOf.j0 k (t366.toList != t350.toList) a0_0 a0_1 a0_2 l0_3 l0_4 t352 t353 t354 t355 t358)=some r:=by rw [if_pos rfl] at H; exact H
    clear H
    have H:=H1
    clear H1
    have H':=Aside0.mk H
    clear H
    have hnb37:=NB367_335.out
    have hnc37:=NB335_367.out
    have hnb38:=NB367_351.out
    have hnc38:=NB351_367.out
    have hnb39:=NB367_361.out
    have hnc39:=NB361_367.out
    have hcz40_0:w30.cell? ⟨gb367,0,none⟩=some (.int .i64 0):=(blk_cell BK367.out 0).trans rfl
    have hcz40_1:w30.cell? ⟨gb367,1,none⟩=some (.int .i64 0):=(blk_cell BK367.out 1).trans rfl
    have hcz40_2:w30.cell? ⟨gb367,2,none⟩=some (.int .i64 0):=(blk_cell BK367.out 2).trans rfl
    have hcz40_3:w30.cell? ⟨gb367,3,none⟩=some (.int .i64 0):=(blk_cell BK367.out 3).trans rfl
    have hfz40_0:=blk_frozen BK367.out 0
    have hfz40_1:=blk_frozen BK367.out 1
    have hfz40_2:=blk_frozen BK367.out 2
    have hfz40_3:=blk_frozen BK367.out 3
    have hnb41:=NB351_335.out
    have hnc41:=NB335_351.out
    have hnb42:=NB351_361.out
    have hnc42:=NB361_351.out
    have hcz43_0:w30.cell? ⟨gb351,0,none⟩=some (.int .i64 t346):=(blk_cell BK351.out 0).trans rfl
    have hcz43_1:w30.cell? ⟨gb351,1,none⟩=some (.int .i64 t347):=(blk_cell BK351.out 1).trans rfl
    have hcz43_2:w30.cell? ⟨gb351,2,none⟩=some (.int .i64 t348):=(blk_cell BK351.out 2).trans rfl
    have hcz43_3:w30.cell? ⟨gb351,3,none⟩=some (.int .i64 t349):=(blk_cell BK351.out 3).trans rfl
    have hfz43_0:=blk_frozen BK351.out 0
    have hfz43_1:=blk_frozen BK351.out 1
    have hfz43_2:=blk_frozen BK351.out 2
    have hfz43_3:=blk_frozen BK351.out 3
    go_wp2_with (first|((with_reducible refine gate_callee (f:=9) rfl ?_); refine goesL_ (some 29) rfl rfl Try.func9 (by kernel_rfl) rfl #[.agg #[.int .i64 t362,.int .i64 t363,.int .i64 t364,.int .i64 t365],.agg #[.int .i64 t346,.int .i64 t347,.int .i64 t348,.int .i64 t349]] rfl (by (try simp only [List.map_toArray,List.map_cons,List.map_nil]); first|done|rfl|(simp only [List.length_drop,List.length_take]; rfl)) ?_; (with_reducible refine (laws_eqPace.calls t362 t363 t364 t365 t346 t347 t348 t349 true _ A35.out).mono ?_); rintro e w44 ⟨rfl,hb⟩; refine ⟨_,rfl,?_⟩; have n0_:=Aside0.mk (Kd.R_below (by (with_reducible repeat (first|apply Kd.R_alloc|apply Kd.R_drewN|apply Kd.R_drew)); exact (Kd.R_mono (Kd.R_far (p:=⟨gb367,3,none⟩) (Kd.R_far (p:=⟨gb367,2,none⟩) (Kd.R_far (p:=⟨gb367,1,none⟩) (Kd.R_far (p:=⟨gb367,0,none⟩) (Kd.R_types HO342.out BK367.out (by decide)) (fun _ hk=>hk.2) (.int .i64 t362)) (fun _ hk=>hk.2) (.int .i64 t363)) (fun _ hk=>hk.2) (.int .i64 t364)) (fun _ hk=>hk.2) (.int .i64 t365)) (fun _ h_=>h_.1))) hb); have n1_:=Aside0.mk (Kd.R_below (by (with_reducible repeat (first|apply Kd.R_alloc|apply Kd.R_drewN|apply Kd.R_drew)); exact (Kd.R_mono (Kd.R_far (p:=⟨gb367,3,none⟩) (Kd.R_far (p:=⟨gb367,2,none⟩) (Kd.R_far (p:=⟨gb367,1,none⟩) (Kd.R_far (p:=⟨gb367,0,none⟩) (Kd.R_types HO345.out BK367.out (by decide)) (fun _ hk=>hk.2) (.int .i64 t362)) (fun _ hk=>hk.2) (.int .i64 t363)) (fun _ hk=>hk.2) (.int .i64 t364)) (fun _ hk=>hk.2) (.int .i64 t365)) (fun _ h_=>h_.1))) hb); have n2_:=Aside0.mk (Kd.R_below (by (with_reducible repeat (first|apply Kd.R_alloc|apply Kd.R_drewN|apply Kd.R_drew)); exact (Kd.R_mono (Kd.R_far (p:=⟨gb367,3,none⟩) (Kd.R_far (p:=⟨gb367,2,none⟩) (Kd.R_far (p:=⟨gb367,1,none⟩) (Kd.R_far (p:=⟨gb367,0,none⟩) (Kd.R_types HO357.out BK367.out (by decide)) (fun _ hk=>hk.2) (.int .i64 t362)) (fun _ hk=>hk.2) (.int .i64 t363)) (fun _ hk=>hk.2) (.int .i64 t364)) (fun _ hk=>hk.2) (.int .i64 t365)) (fun _ h_=>h_.1))) hb); have n3_:=Aside0.mk (Kd.R_below (by (with_reducible repeat (first|apply Kd.R_alloc|apply Kd.R_drewN|apply Kd.R_drew)); exact (Kd.R_mono (Kd.R_far (p:=⟨gb367,3,none⟩) (Kd.R_far (p:=⟨gb367,2,none⟩) (Kd.R_far (p:=⟨gb367,1,none⟩) (Kd.R_far (p:=⟨gb367,0,none⟩) (Kd.R_types HO360.out BK367.out (by decide)) (fun _ hk=>hk.2) (.int .i64 t362)) (fun _ hk=>hk.2) (.int .i64 t363)) (fun _ hk=>hk.2) (.int .i64 t364)) (fun _ hk=>hk.2) (.int .i64 t365)) (fun _ h_=>h_.1))) hb); have n4_:=Aside0.mk (blk_below (g:=gb335) (o:=.cells #[.int .i64 a0_0,.int .i64 a0_1,.string a0_2,.slice A0_3 l0_3.length c0_3,.slice A0_4 l0_4.length c0_4] 25 (0,0)) (by (with_reducible repeat (first|refine blk_drewN ?_ _|refine blk_drew ?_|refine blk_alloc ?_ _)); refine blk_far ?_ NB335_367.out _; (with_reducible repeat (first|refine blk_drewN ?_ _|refine blk_drew ?_|refine blk_alloc ?_ _)); refine blk_far ?_ NB335_367.out _; (with_reducible repeat (first|refine blk_drewN ?_ _|refine blk_drew ?_|refine blk_alloc ?_ _)); refine blk_far ?_ NB335_367.out _; (with_reducible repeat (first|refine blk_drewN ?_ _|refine blk_drew ?_|refine blk_alloc ?_ _)); refine blk_far ?_ NB335_367.out _; (with_reducible repeat (first|refine blk_drewN ?_ _|refine blk_drew ?_|refine blk_alloc ?_ _)); exact BK335.out) hb); have n5_:=Aside0.mk (blk_below (g:=gb351) (o:=.cells #[.int .i64 t346,.int .i64 t347,.int .i64 t348,.int .i64 t349] 28 (0,0)) (by (with_reducible repeat (first|refine blk_drewN ?_ _|refine blk_drew ?_|refine blk_alloc ?_ _)); refine blk_far ?_ NB351_367.out _; (with_reducible repeat (first|refine blk_drewN ?_ _|refine blk_drew ?_|refine blk_alloc ?_ _)); refine blk_far ?_ NB351_367.out _; (with_reducible repeat (first|refine blk_drewN ?_ _|refine blk_drew ?_|refine blk_alloc ?_ _)); refine blk_far ?_ NB351_367.out _; (with_reducible repeat (first|refine blk_drewN ?_ _|refine blk_drew ?_|refine blk_alloc ?_ _)); refine blk_far ?_ NB351_367.out _; (with_reducible repeat (first|refine blk_drewN ?_ _|refine blk_drew ?_|refine blk_alloc ?_ _)); exact BK351.out) hb); have n6_:=Aside0.mk (blk_below (g:=gb361) (o:=.cells #[.int .i64 t352,.int .i64 t353,.string t354,.slice Ao27 t355.length co27,.slice Ao28 t358.length co28] 33 (0,0)) (by (with_reducible repeat (first|refine blk_drewN ?_ _|refine blk_drew ?_|refine blk_alloc ?_ _)); refine blk_far ?_ NB361_367.out _; (with_reducible repeat (first|refine blk_drewN ?_ _|refine blk_drew ?_|refine blk_alloc ?_ _)); refine blk_far ?_ NB361_367.out _; (with_reducible repeat (first|refine blk_drewN ?_ _|refine blk_drew ?_|refine blk_alloc ?_ _)); refine blk_far ?_ NB361_367.out _; (with_reducible repeat (first|refine blk_drewN ?_ _|refine blk_drew ?_|refine blk_alloc ?_ _)); refine blk_far ?_ NB361_367.out _; (with_reducible repeat (first|refine blk_drewN ?_ _|refine blk_drew ?_|refine blk_alloc ?_ _)); exact BK361.out) hb); have n7_:=Aside0.mk (blk_below (g:=gb367) (o:=.cells #[.int .i64 t362,.int .i64 t363,.int .i64 t364,.int .i64 t365] 28 (0,0)) (by (with_reducible repeat (first|refine blk_drewN ?_ _|refine blk_drew ?_|refine blk_alloc ?_ _)); refine blk_put (cs:=#[.int .i64 t362,.int .i64 t363,.int .i64 t364,.int .i64 0]) ?_ 3 _ rfl; (with_reducible repeat (first|refine blk_drewN ?_ _|refine blk_drew ?_|refine blk_alloc ?_ _)); refine blk_put (cs:=#[.int .i64 t362,.int .i64 t363,.int .i64 0,.int .i64 0]) ?_ 2 _ rfl; (with_reducible repeat (first|refine blk_drewN ?_ _|refine blk_drew ?_|refine blk_alloc ?_ _)); refine blk_put (cs:=#[.int .i64 t362,.int .i64 0,.int .i64 0,.int .i64 0]) ?_ 1 _ rfl; (with_reducible repeat (first|refine blk_drewN ?_ _|refine blk_drew ?_|refine blk_alloc ?_ _)); refine blk_put (cs:=#[.int .i64 0,.int .i64 0,.int .i64 0,.int .i64 0]) ?_ 0 _ rfl; (with_reducible repeat (first|refine blk_drewN ?_ _|refine blk_drew ?_|refine blk_alloc ?_ _)); exact BK367.out) hb); have n8_:=Aside0.mk (below_step (by repeat (first|(with_reducible first|exact HB.out|apply below_alloc|apply pw_below_drewN|apply below_drew1|refine below_set ?_ GE335.out|refine below_set ?_ GE351.out|refine below_set ?_ GE361.out|refine below_set ?_ GE367.out)|exact HB.out)) hb); clear HO342; clear HO345; clear HO357; clear HO360; clear BK335; clear BK351; clear BK361; clear BK367; clear HB; have HO342:=n0_; have HO345:=n1_; have HO357:=n2_; have HO360:=n3_; have BK335:=n4_; have BK351:=n5_; have BK361:=n6_; have BK367:=n7_; have HB:=n8_; clear n0_ n1_ n2_ n3_ n4_ n5_ n6_ n7_ n8_; (try clear hb); (try clear hb2); (try clear hk); (try clear hi)))
    go_meet
    case rel=>exact ⟨_,((t366.toList != t350.toList)),(by first|rfl|(simp; done)|(simp [*]; done)),H',⟨by first|omega|exact Nat.le_refl _⟩,⟨by (with_reducible repeat (first|apply Kd.R_alloc|apply Kd.R_drewN|apply Kd.R_drew)); exact Kd.R_mono HO357.out (fun _ hk=>trivial)⟩,⟨by (with_reducible repeat (first|apply Kd.R_alloc|apply Kd.R_drewN|apply Kd.R_drew)); exact Kd.R_mono HO360.out (fun _ hk=>⟨hk.1.1.1,hk.2⟩)⟩,⟨by (with_reducible repeat (first|refine blk_drewN ?_ _|refine blk_drew ?_|refine blk_alloc ?_ _)); exact BK335.out⟩,⟨by (with_reducible repeat (first|refine blk_drewN ?_ _|refine blk_drew ?_|refine blk_alloc ?_ _)); exact BK351.out⟩,⟨by (with_reducible repeat (first|refine blk_drewN ?_ _|refine blk_drew ?_|refine blk_alloc ?_ _)); exact BK361.out⟩,⟨by (with_reducible repeat (first|refine blk_drewN ?_ _|refine blk_drew ?_|refine blk_alloc ?_ _)); exact BK367.out⟩,⟨by repeat (first|(with_reducible first|exact HB.out|apply below_alloc|apply pw_below_drewN|apply below_drew1|refine below_set ?_ GE335.out|refine below_set ?_ GE351.out|refine below_set ?_ GE361.out|refine below_set ?_ GE367.out)|exact HB.out)⟩⟩
   ·replace c36:=Bool.eq_false_iff.mpr c36
    subst c36
    have H1:(laws_FnExactPaceOf.j0 k true a0_0 a0_1 a0_2 l0_3 l0_4 t352 t353 t354 t355 t358)=some r:=by rw [if_neg (show ¬ (false=true) by decide)] at H; exact H
    clear H
    have H:=H1
    clear H1
    have H':=Aside0.mk H
    clear H
    have hnb45:=NB367_335.out
    have hnc45:=NB335_367.out
    have hnb46:=NB367_351.out
    have hnc46:=NB351_367.out
    have hnb47:=NB367_361.out
    have hnc47:=NB361_367.out
    have hcz48_0:w30.cell? ⟨gb367,0,none⟩=some (.int .i64 0):=(blk_cell BK367.out 0).trans rfl
    have hcz48_1:w30.cell? ⟨gb367,1,none⟩=some (.int .i64 0):=(blk_cell BK367.out 1).trans rfl
    have hcz48_2:w30.cell? ⟨gb367,2,none⟩=some (.int .i64 0):=(blk_cell BK367.out 2).trans rfl
    have hcz48_3:w30.cell? ⟨gb367,3,none⟩=some (.int .i64 0):=(blk_cell BK367.out 3).trans rfl
    have hfz48_0:=blk_frozen BK367.out 0
    have hfz48_1:=blk_frozen BK367.out 1
    have hfz48_2:=blk_frozen BK367.out 2
    have hfz48_3:=blk_frozen BK367.out 3
    have hnb49:=NB351_335.out
    have hnc49:=NB335_351.out
    have hnb50:=NB351_361.out
    have hnc50:=NB361_351.out
    have hcz51_0:w30.cell? ⟨gb351,0,none⟩=some (.int .i64 t346):=(blk_cell BK351.out 0).trans rfl
    have hcz51_1:w30.cell? ⟨gb351,1,none⟩=some (.int .i64 t347):=(blk_cell BK351.out 1).trans rfl
    have hcz51_2:w30.cell? ⟨gb351,2,none⟩=some (.int .i64 t348):=(blk_cell BK351.out 2).trans rfl
    have hcz51_3:w30.cell? ⟨gb351,3,none⟩=some (.int .i64 t349):=(blk_cell BK351.out 3).trans rfl
    have hfz51_0:=blk_frozen BK351.out 0
    have hfz51_1:=blk_frozen BK351.out 1
    have hfz51_2:=blk_frozen BK351.out 2
    have hfz51_3:=blk_frozen BK351.out 3
    go_wp2_with (first|((with_reducible refine gate_callee (f:=9) rfl ?_); refine goesL_ (some 29) rfl rfl Try.func9 (by kernel_rfl) rfl #[.agg #[.int .i64 t362,.int .i64 t363,.int .i64 t364,.int .i64 t365],.agg #[.int .i64 t346,.int .i64 t347,.int .i64 t348,.int .i64 t349]] rfl (by (try simp only [List.map_toArray,List.map_cons,List.map_nil]); first|done|rfl|(simp only [List.length_drop,List.length_take]; rfl)) ?_; (with_reducible refine (laws_eqPace.calls t362 t363 t364 t365 t346 t347 t348 t349 false _ A35.out).mono ?_); rintro e w52 ⟨rfl,hb⟩; refine ⟨_,rfl,?_⟩; have n0_:=Aside0.mk (Kd.R_below (by (with_reducible repeat (first|apply Kd.R_alloc|apply Kd.R_drewN|apply Kd.R_drew)); exact (Kd.R_mono (Kd.R_far (p:=⟨gb367,3,none⟩) (Kd.R_far (p:=⟨gb367,2,none⟩) (Kd.R_far (p:=⟨gb367,1,none⟩) (Kd.R_far (p:=⟨gb367,0,none⟩) (Kd.R_types HO342.out BK367.out (by decide)) (fun _ hk=>hk.2) (.int .i64 t362)) (fun _ hk=>hk.2) (.int .i64 t363)) (fun _ hk=>hk.2) (.int .i64 t364)) (fun _ hk=>hk.2) (.int .i64 t365)) (fun _ h_=>h_.1))) hb); have n1_:=Aside0.mk (Kd.R_below (by (with_reducible repeat (first|apply Kd.R_alloc|apply Kd.R_drewN|apply Kd.R_drew)); exact (Kd.R_mono (Kd.R_far (p:=⟨gb367,3,none⟩) (Kd.R_far (p:=⟨gb367,2,none⟩) (Kd.R_far (p:=⟨gb367,1,none⟩) (Kd.R_far (p:=⟨gb367,0,none⟩) (Kd.R_types HO345.out BK367.out (by decide)) (fun _ hk=>hk.2) (.int .i64 t362)) (fun _ hk=>hk.2) (.int .i64 t363)) (fun _ hk=>hk.2) (.int .i64 t364)) (fun _ hk=>hk.2) (.int .i64 t365)) (fun _ h_=>h_.1))) hb); have n2_:=Aside0.mk (Kd.R_below (by (with_reducible repeat (first|apply Kd.R_alloc|apply Kd.R_drewN|apply Kd.R_drew)); exact (Kd.R_mono (Kd.R_far (p:=⟨gb367,3,none⟩) (Kd.R_far (p:=⟨gb367,2,none⟩) (Kd.R_far (p:=⟨gb367,1,none⟩) (Kd.R_far (p:=⟨gb367,0,none⟩) (Kd.R_types HO357.out BK367.out (by decide)) (fun _ hk=>hk.2) (.int .i64 t362)) (fun _ hk=>hk.2) (.int .i64 t363)) (fun _ hk=>hk.2) (.int .i64 t364)) (fun _ hk=>hk.2) (.int .i64 t365)) (fun _ h_=>h_.1))) hb); have n3_:=Aside0.mk (Kd.R_below (by (with_reducible repeat (first|apply Kd.R_alloc|apply Kd.R_drewN|apply Kd.R_drew)); exact (Kd.R_mono (Kd.R_far (p:=⟨gb367,3,none⟩) (Kd.R_far (p:=⟨gb367,2,none⟩) (Kd.R_far (p:=⟨gb367,1,none⟩) (Kd.R_far (p:=⟨gb367,0,none⟩) (Kd.R_types HO360.out BK367.out (by decide)) (fun _ hk=>hk.2) (.int .i64 t362)) (fun _ hk=>hk.2) (.int .i64 t363)) (fun _ hk=>hk.2) (.int .i64 t364)) (fun _ hk=>hk.2) (.int .i64 t365)) (fun _ h_=>h_.1))) hb); have n4_:=Aside0.mk (blk_below (g:=gb335) (o:=.cells #[.int .i64 a0_0,.int .i64 a0_1,.string a0_2,.slice A0_3 l0_3.length c0_3,.slice A0_4 l0_4.length c0_4] 25 (0,0)) (by (with_reducible repeat (first|refine blk_drewN ?_ _|refine blk_drew ?_|refine blk_alloc ?_ _)); refine blk_far ?_ NB335_367.out _; (with_reducible repeat (first|refine blk_drewN ?_ _|refine blk_drew ?_|refine blk_alloc ?_ _)); refine blk_far ?_ NB335_367.out _; (with_reducible repeat (first|refine blk_drewN ?_ _|refine blk_drew ?_|refine blk_alloc ?_ _)); refine blk_far ?_ NB335_367.out _; (with_reducible repeat (first|refine blk_drewN ?_ _|refine blk_drew ?_|refine blk_alloc ?_ _)); refine blk_far ?_ NB335_367.out _; (with_reducible repeat (first|refine blk_drewN ?_ _|refine blk_drew ?_|refine blk_alloc ?_ _)); exact BK335.out) hb); have n5_:=Aside0.mk (blk_below (g:=gb351) (o:=.cells #[.int .i64 t346,.int .i64 t347,.int .i64 t348,.int .i64 t349] 28 (0,0)) (by (with_reducible repeat (first|refine blk_drewN ?_ _|refine blk_drew ?_|refine blk_alloc ?_ _)); refine blk_far ?_ NB351_367.out _; (with_reducible repeat (first|refine blk_drewN ?_ _|refine blk_drew ?_|refine blk_alloc ?_ _)); refine blk_far ?_ NB351_367.out _; (with_reducible repeat (first|refine blk_drewN ?_ _|refine blk_drew ?_|refine blk_alloc ?_ _)); refine blk_far ?_ NB351_367.out _; (with_reducible repeat (first|refine blk_drewN ?_ _|refine blk_drew ?_|refine blk_alloc ?_ _)); refine blk_far ?_ NB351_367.out _; (with_reducible repeat (first|refine blk_drewN ?_ _|refine blk_drew ?_|refine blk_alloc ?_ _)); exact BK351.out) hb); have n6_:=Aside0.mk (blk_below (g:=gb361) (o:=.cells #[.int .i64 t352,.int .i64 t353,.string t354,.slice Ao27 t355.length co27,.slice Ao28 t358.length co28] 33 (0,0)) (by (with_reducible repeat (first|refine blk_drewN ?_ _|refine blk_drew ?_|refine blk_alloc ?_ _)); refine blk_far ?_ NB361_367.out _; (with_reducible repeat (first|refine blk_drewN ?_ _|refine blk_drew ?_|refine blk_alloc ?_ _)); refine blk_far ?_ NB361_367.out _; (with_reducible repeat (first|refine blk_drewN ?_ _|refine blk_drew ?_|refine blk_alloc ?_ _)); refine blk_far ?_ NB361_367.out _; (with_reducible repeat (first|refine blk_drewN ?_ _|refine blk_drew ?_|refine blk_alloc ?_ _)); refine blk_far ?_ NB361_367.out _; (with_reducible repeat (first|refine blk_drewN ?_ _|refine blk_drew ?_|refine blk_alloc ?_ _)); exact BK361.out) hb); have n7_:=Aside0.mk (blk_below (g:=gb367) (o:=.cells #[.int .i64 t362,.int .i64 t363,.int .i64 t364,.int .i64 t365] 28 (0,0)) (by (with_reducible repeat (first|refine blk_drewN ?_ _|refine blk_drew ?_|refine blk_alloc ?_ _)); refine blk_put (cs:=#[.int .i64 t362,.int .i64 t363,.int .i64 t364,.int .i64 0]) ?_ 3 _ rfl; (with_reducible repeat (first|refine blk_drewN ?_ _|refine blk_drew ?_|refine blk_alloc ?_ _)); refine blk_put (cs:=#[.int .i64 t362,.int .i64 t363,.int .i64 0,.int .i64 0]) ?_ 2 _ rfl; (with_reducible repeat (first|refine blk_drewN ?_ _|refine blk_drew ?_|refine blk_alloc ?_ _)); refine blk_put (cs:=#[.int .i64 t362,.int .i64 0,.int .i64 0,.int .i64 0]) ?_ 1 _ rfl; (with_reducible repeat (first|refine blk_drewN ?_ _|refine blk_drew ?_|refine blk_alloc ?_ _)); refine blk_put (cs:=#[.int .i64 0,.int .i64 0,.int .i64 0,.int .i64 0]) ?_ 0 _ rfl; (with_reducible repeat (first|refine blk_drewN ?_ _|refine blk_drew ?_|refine blk_alloc ?_ _)); exact BK367.out) hb); have n8_:=Aside0.mk (below_step (by repeat (first|(with_reducible first|exact HB.out|apply below_alloc|apply pw_below_drewN|apply below_drew1|refine below_set ?_ GE335.out|refine below_set ?_ GE351.out|refine below_set ?_ GE361.out|refine below_set ?_ GE367.out)|exact HB.out)) hb); clear HO342; clear HO345; clear HO357; clear HO360; clear BK335; clear BK351; clear BK361; clear BK367; clear HB; have HO342:=n0_; have HO345:=n1_; have HO357:=n2_; have HO360:=n3_; have BK335:=n4_; have BK351:=n5_; have BK361:=n6_; have BK367:=n7_; have HB:=n8_; clear n0_ n1_ n2_ n3_ n4_ n5_ n6_ n7_ n8_; (try clear hb); (try clear hb2); (try clear hk); (try clear hi)))
    go_meet
    case rel=>exact ⟨_,(true),(by first|rfl|(simp; done)|(simp [*]; done)),H',⟨by first|omega|exact Nat.le_refl _⟩,⟨by (with_reducible repeat (first|apply Kd.R_alloc|apply Kd.R_drewN|apply Kd.R_drew)); exact Kd.R_mono HO357.out (fun _ hk=>trivial)⟩,⟨by (with_reducible repeat (first|apply Kd.R_alloc|apply Kd.R_drewN|apply Kd.R_drew)); exact Kd.R_mono HO360.out (fun _ hk=>⟨hk.1.1.1,hk.2⟩)⟩,⟨by (with_reducible repeat (first|refine blk_drewN ?_ _|refine blk_drew ?_|refine blk_alloc ?_ _)); exact BK335.out⟩,⟨by (with_reducible repeat (first|refine blk_drewN ?_ _|refine blk_drew ?_|refine blk_alloc ?_ _)); exact BK351.out⟩,⟨by (with_reducible repeat (first|refine blk_drewN ?_ _|refine blk_drew ?_|refine blk_alloc ?_ _)); exact BK361.out⟩,⟨by (with_reducible repeat (first|refine blk_drewN ?_ _|refine blk_drew ?_|refine blk_alloc ?_ _)); exact BK367.out⟩,⟨by repeat (first|(with_reducible first|exact HB.out|apply below_alloc|apply pw_below_drewN|apply below_drew1|refine below_set ?_ GE335.out|refine below_set ?_ GE351.out|refine below_set ?_ GE361.out|refine below_set ?_ GE367.out)|exact HB.out)⟩⟩
  case rest =>
   clear HC12
   try clear c1
   try clear c2
   try clear p2
   try clear c3
   try clear c4
   try clear c5
   try clear c6
   try clear c7
   try clear c7b0
   try clear c8
   try clear c9
   try clear c19
   try clear c24
   try clear c25
   try clear c31
   try clear c32
   try clear c33
   try clear c36
   try clear c37
   try clear c38
   try clear c39
   try clear c41
   try clear c42
   try clear c45
   try clear c46
   try clear c47
   try clear c49
   try clear c50
   try clear hcz13_0
   try clear hcz13_1
   try clear hcz13_2
   try clear hcz13_3
   try clear hcz13_4
   try clear hcz20_0
   try clear hcz20_1
   try clear hcz20_2
   try clear hcz20_3
   try clear hcz21_0
   try clear hcz21_1
   try clear hcz21_2
   try clear hcz21_3
   try clear hcz21_4
   try clear hcz26_0
   try clear hcz26_1
   try clear hcz26_2
   try clear hcz26_3
   try clear hcz26_4
   try clear hcz34_0
   try clear hcz34_1
   try clear hcz34_2
   try clear hcz34_3
   try clear hcz40_0
   try clear hcz40_1
   try clear hcz40_2
   try clear hcz40_3
   try clear hcz43_0
   try clear hcz43_1
   try clear hcz43_2
   try clear hcz43_3
   try clear hcz48_0
   try clear hcz48_1
   try clear hcz48_2
   try clear hcz48_3
   try clear hcz51_0
   try clear hcz51_1
   try clear hcz51_2
   try clear hcz51_3
   try clear hcz5_0
   try clear hcz5_1
   try clear hcz5_2
   try clear hcz5_3
   try clear hcz5_4
   try clear hfz13_0
   try clear hfz13_1
   try clear hfz13_2
   try clear hfz13_3
   try clear hfz13_4
   try clear hfz20_0
   try clear hfz20_1
   try clear hfz20_2
   try clear hfz20_3
   try clear hfz21_0
   try clear hfz21_1
   try clear hfz21_2
   try clear hfz21_3
   try clear hfz21_4
   try clear hfz26_0
   try clear hfz26_1
   try clear hfz26_2
   try clear hfz26_3
   try clear hfz26_4
   try clear hfz34_0
   try clear hfz34_1
   try clear hfz34_2
   try clear hfz34_3
   try clear hfz40_0
   try clear hfz40_1
   try clear hfz40_2
   try clear hfz40_3
   try clear hfz43_0
   try clear hfz43_1
   try clear hfz43_2
   try clear hfz43_3
   try clear hfz48_0
   try clear hfz48_1
   try clear hfz48_2
   try clear hfz48_3
   try clear hfz51_0
   try clear hfz51_1
   try clear hfz51_2
   try clear hfz51_3
   try clear hfz5_0
   try clear hfz5_1
   try clear hfz5_2
   try clear hfz5_3
   try clear hfz5_4
   obtain ⟨kq,x35_11,rfl,HA,HJ11,HO_362003,HO_362004,BK335,BK351,BK361,BK367,HB⟩:=hcut
   cases kq with
   |zero=>exact absurd HA.out (by simp [laws_FnExactPaceOf.j0])
   |succ kj11 =>
    have H:=HA.out
    clear HA
    simp only [laws_FnExactPaceOf.j0] at H
    by_cases c53:x35_11=true
    ·subst c53
     have H1:(some false)=some r:=by rw [if_pos rfl] at H; exact H
     clear H
     have H:=H1
     clear H1
     obtain rfl:=Option.some.inj H
     go_wp2
     go_ret
     exact ⟨by first|rfl|(simp [errW_none,errW_some]<;>rfl)|(simp [*,errW_none,errW_some]<;>rfl),by repeat (first|(with_reducible first|exact HB.out|apply below_alloc|apply pw_below_drewN|apply below_drew1|refine below_set ?_ GE335.out|refine below_set ?_ GE351.out|refine below_set ?_ GE361.out|refine below_set ?_ GE367.out)|exact HB.out)⟩
    ·replace c53:=Bool.eq_false_iff.mpr c53
     subst c53
     have H1:((laws_toNode.f kj11 a0_0 a0_1 a0_2 l0_3 l0_4).bind fun bt369=>((laws_eqNode.f kj11 t352 t353 t354 t355 t358 bt369.1 bt369.2.1 bt369.2.2.1 bt369.2.2.2.1 bt369.2.2.2.2).bind fun t378=>(if t378=true then (some true) else (some false))))=some r:=by rw [if_neg (show ¬ (false=true) by decide)] at H; exact H
     clear H
     have H:=H1
     clear H1
     replace H:=Option.bind_eq_some_iff.mp H
     obtain ⟨⟨t369,t370,t371,t372,t375⟩,A540,H⟩:=H
     replace H:((laws_eqNode.f kj11 t352 t353 t354 t355 t358 t369 t370 t371 t372 t375).bind fun t378=>(if t378=true then (some true) else (some false)))=some r:=H
     have A54:=Aside0.mk A540
     clear A540
     replace H:=Option.bind_eq_some_iff.mp H
     obtain ⟨t378,A550,H⟩:=H
     replace H:(if t378=true then (some true) else (some false))=some r:=H
     have A55:=Aside0.mk A550
     clear A550
     have HC56:=Aside0.mk H
     clear H
     try go_wp2
     have n0_:=Aside0.mk (Kd.R_drew HO_362003.out)
     have n1_:=Aside0.mk (Kd.R_drew HO_362004.out)
     have n2_:=Aside0.mk (blk_drew BK335.out)
     have n3_:=Aside0.mk (blk_drew BK351.out)
     have n4_:=Aside0.mk (blk_drew BK361.out)
     have n5_:=Aside0.mk (blk_drew BK367.out)
     have n6_:=Aside0.mk (below_drew1 HB.out)
     clear HO_362003
     clear HO_362004
     clear BK335
     clear BK351
     clear BK361
     clear BK367
     clear HB
     have HO_362003:=n0_
     have HO_362004:=n1_
     have BK335:=n2_
     have BK351:=n3_
     have BK361:=n4_
     have BK367:=n5_
     have HB:=n6_
     clear n0_ n1_ n2_ n3_ n4_ n5_ n6_
     refine start_ (n:=5) (S:=fun w'=>w'.cell? ⟨gb361,0,none⟩=some (.int .i64 t352)∧w'.cell? ⟨gb361,1,none⟩=some (.int .i64 t353)∧w'.cell? ⟨gb361,2,none⟩=some (.string t354)∧w'.cell? ⟨gb361,3,none⟩=some (.slice Ao27 t355.length co27)∧w'.cell? ⟨gb361,4,none⟩=some (.slice Ao28 t358.length co28)∧w'.cell? ⟨gb335,0,none⟩=some (.int .i64 a0_0)∧w'.cell? ⟨gb335,1,none⟩=some (.int .i64 a0_1)∧w'.cell? ⟨gb335,2,none⟩=some (.string a0_2)∧w'.cell? ⟨gb335,3,none⟩=some (.slice A0_3 l0_3.length c0_3)∧w'.cell? ⟨gb335,4,none⟩=some (.slice A0_4 l0_4.length c0_4)) (ds:=[]) #[false,false,false,false,false] (by kernel_rfl) rfl rfl ⟨(blk_cell BK361.out 0).trans rfl,(blk_cell BK361.out 1).trans rfl,(blk_cell BK361.out 2).trans rfl,(blk_cell BK361.out 3).trans rfl,(blk_cell BK361.out 4).trans rfl,(blk_cell BK335.out 0).trans rfl,(blk_cell BK335.out 1).trans rfl,(blk_cell BK335.out 2).trans rfl,(blk_cell BK335.out 3).trans rfl,(blk_cell BK335.out 4).trans rfl⟩ (fun hHeld=>?_)
     generalize wc.drew=w57 at HO_362003 HO_362004 BK335 BK351 BK361 BK367 HB hHeld ⊢
     refine take_ (i:=0) (N:=some 36) (v:=?_) (a':=?_) (bs_ 5 1) rfl rfl (by kernel_rfl) (fun _ _ _ h=>h) (Or.inl ⟨by rfl,?_⟩) hHeld ?_ ?_
     rotate_left
     ·rintro w' ⟨s0,s1,s2,s3,s4,s5,s6,s7,s8,s9⟩
      go_simp
      (first|with_reducible rfl|rfl)
     rotate_left
     ·simp only [Act.put,List.setIfInBounds_toArray,List.set_cons_zero,List.set_cons_succ,i64_w,i32_w]
      rfl
     refine take_ (i:=1) (N:=some 37) (v:=?_) (a':=?_) (bs_ 5 3) rfl rfl (by kernel_rfl) (fun _ _ _ h=>h) (Or.inl ⟨by rfl,?_⟩) hHeld ?_ ?_
     rotate_left
     ·rintro w' ⟨s0,s1,s2,s3,s4,s5,s6,s7,s8,s9⟩
      go_simp
      (first|with_reducible rfl|rfl)
     rotate_left
     ·simp only [Act.put,List.setIfInBounds_toArray,List.set_cons_zero,List.set_cons_succ,i64_w,i32_w]
      rfl
     refine one_ (i:=2) (N:=some 38) (bs_ 5 7) rfl rfl (by kernel_rfl) (by decide) (fun K hK=>?_)
     refine goes_ Try.func7 (by kernel_rfl) rfl #[.agg #[.int .i64 a0_0,.int .i64 a0_1,.string a0_2,.slice A0_3 l0_3.length c0_3,.slice A0_4 l0_4.length c0_4]] (by rfl) rfl rfl (by (try simp only [List.map_toArray,List.map_cons,List.map_nil]); first|done|rfl|(simp only [List.length_drop,List.length_take]; rfl)) ?_
     with_reducible refine (laws_toNode.calls kj11 a0_0 a0_1 a0_2 _ _ l0_3 _ _ l0_4 t369 t370 t371 t372 t375 _ ?side1 ?side2 ?side3 ?side4 A54.out).mono ?_
     (case side1=>repeat (first|exact (Kd.C_below HR0_3.out HB.out)|(with_reducible refine Kd.C_alloc ?_ _)|(with_reducible refine Kd.C_drewN ?_ _)|(with_reducible refine Kd.C_drew ?_)))
     (case side2=>exact HC0_3.out)
     (case side3=>repeat (first|exact (Kd.C_below HR0_4.out HB.out)|(with_reducible refine Kd.C_alloc ?_ _)|(with_reducible refine Kd.C_drewN ?_ _)|(with_reducible refine Kd.C_drew ?_)))
     (case side4=>exact HC0_4.out)
     rintro e w58 ⟨v373,v376,rfl,ho0,ho1,hb⟩
     refine ⟨_,rfl,?_⟩
     have n0_:=Aside0.mk (Kd.R_elder' (by (with_reducible repeat (first|apply Kd.R_alloc|apply Kd.R_drewN|apply Kd.R_drew)); exact HO_362003.out) (Kd.R_base ho0) hb)
     have n1_:=Aside0.mk (Kd.R_mono (Kd.R_told (Kd.R_told (Kd.R_old (by (with_reducible repeat (first|apply Kd.R_alloc|apply Kd.R_drewN|apply Kd.R_drew)); exact HO_362004.out) hb) (Kd.R_base ho0)) (Kd.R_base ho1)) (fun _ h_=>h_.1))
     have n2_:=Aside0.mk (Kd.R_lower (Kd.R_new' ho0 (Kd.R_lt (by (with_reducible repeat (first|apply Kd.R_alloc|apply Kd.R_drewN|apply Kd.R_drew)); exact HO_362003.out))) (below_size (by repeat (first|(with_reducible first|exact HB.out|apply below_alloc|apply pw_below_drewN|apply below_drew1|refine below_set ?_ GE335.out|refine below_set ?_ GE351.out|refine below_set ?_ GE361.out|refine below_set ?_ GE367.out)|exact HB.out))))
     have n3_:=Aside0.mk (Kd.R_lower (Kd.R_newB (Kd.R_new' (Kd.R_new' ho1 (Kd.R_lt (by (with_reducible repeat (first|apply Kd.R_alloc|apply Kd.R_drewN|apply Kd.R_drew)); exact HO_362003.out))) (Kd.R_lt (by (with_reducible repeat (first|apply Kd.R_alloc|apply Kd.R_drewN|apply Kd.R_drew)); exact HO_362004.out))) (g:=gb361) (o:=.cells #[.int .i64 t352,.int .i64 t353,.string t354,.slice Ao27 t355.length co27,.slice Ao28 t358.length co28] 33 (0,0)) (by (with_reducible repeat (first|refine blk_drewN ?_ _|refine blk_drew ?_|refine blk_alloc ?_ _)); exact BK361.out)) (below_size (by repeat (first|(with_reducible first|exact HB.out|apply below_alloc|apply pw_below_drewN|apply below_drew1|refine below_set ?_ GE335.out|refine below_set ?_ GE351.out|refine below_set ?_ GE361.out|refine below_set ?_ GE367.out)|exact HB.out))))
     have n4_:=Aside0.mk (blk_below (g:=gb335) (o:=.cells #[.int .i64 a0_0,.int .i64 a0_1,.string a0_2,.slice A0_3 l0_3.length c0_3,.slice A0_4 l0_4.length c0_4] 25 (0,0)) (by (with_reducible repeat (first|refine blk_drewN ?_ _|refine blk_drew ?_|refine blk_alloc ?_ _)); exact BK335.out) hb)
     have n5_:=Aside0.mk (blk_below (g:=gb351) (o:=.cells #[.int .i64 t346,.int .i64 t347,.int .i64 t348,.int .i64 t349] 28 (0,0)) (by (with_reducible repeat (first|refine blk_drewN ?_ _|refine blk_drew ?_|refine blk_alloc ?_ _)); exact BK351.out) hb)
     have n6_:=Aside0.mk (blk_below (g:=gb361) (o:=.cells #[.int .i64 t352,.int .i64 t353,.string t354,.slice Ao27 t355.length co27,.slice Ao28 t358.length co28] 33 (0,0)) (by (with_reducible repeat (first|refine blk_drewN ?_ _|refine blk_drew ?_|refine blk_alloc ?_ _)); exact BK361.out) hb)
     have n7_:=Aside0.mk (blk_below (g:=gb367) (o:=.cells #[.int .i64 t362,.int .i64 t363,.int .i64 t364,.int .i64 t365] 28 (0,0)) (by (with_reducible repeat (first|refine blk_drewN ?_ _|refine blk_drew ?_|refine blk_alloc ?_ _)); exact BK367.out) hb)
     have n8_:=Aside0.mk (below_step (by repeat (first|(with_reducible first|exact HB.out|apply below_alloc|apply pw_below_drewN|apply below_drew1|refine below_set ?_ GE335.out|refine below_set ?_ GE351.out|refine below_set ?_ GE361.out|refine below_set ?_ GE367.out)|exact HB.out)) hb)
     clear HO_362003
     clear HO_362004
     clear BK335
     clear BK351
     clear BK361
     clear BK367
     clear HB
     have HO_362003:=n0_
     have HO_362004:=n1_
     have HO374:=n2_
     have HO377:=n3_
     have BK335:=n4_
     have BK351:=n5_
     have BK361:=n6_
     have BK367:=n7_
     have HB:=n8_
     clear n0_ n1_ n2_ n3_ n4_ n5_ n6_ n7_ n8_
     (try clear hb)
     (try clear hb2)
     (try clear hk)
     (try clear hi)
     (try clear ho0)
     (try clear ho1)
     obtain ⟨Ao59,co59,eo59⟩:=Kd.R_slice HO374.out
     (first|subst eo59|(injection eo59 with f1_ f2_ f3_; have f4_:=f1_.symm; have f5_:=f3_.symm; clear f1_ f2_ f3_; subst f4_; subst f5_))
     obtain ⟨Ao60,co60,eo60⟩:=Kd.R_slice HO377.out
     (first|subst eo60|(injection eo60 with f1_ f2_ f3_; have f4_:=f1_.symm; have f5_:=f3_.symm; clear f1_ f2_ f3_; subst f4_; subst f5_))
     refine hK.out _ _ ⟨(blk_cell BK361.out 0).trans rfl,(blk_cell BK361.out 1).trans rfl,(blk_cell BK361.out 2).trans rfl,(blk_cell BK361.out 3).trans rfl,(blk_cell BK361.out 4).trans rfl,(blk_cell BK335.out 0).trans rfl,(blk_cell BK335.out 1).trans rfl,(blk_cell BK335.out 2).trans rfl,(blk_cell BK335.out 3).trans rfl,(blk_cell BK335.out 4).trans rfl⟩ (fun hHeld=>?_)
     clear hK K
     refine norm_ (a':=?_) ?_ ?_
     rotate_left
     ·show Act.put _ (some 38) _=_
      simp only [Act.put,List.setIfInBounds_toArray,List.set_cons_zero,List.set_cons_succ,i64_w,i32_w]
      rfl
     refine one_ (i:=3) (N:=some 39) (bs_ 5 15) rfl rfl (by kernel_rfl) (by decide) (fun K hK=>?_)
     refine goes_ Try.func10 (by kernel_rfl) rfl #[.agg #[.int .i64 t352,.int .i64 t353,.string t354,.slice Ao27 t355.length co27,.slice Ao28 t358.length co28],.agg #[.int .i64 t369,.int .i64 t370,.string t371,.slice Ao59 t372.length co59,.slice Ao60 t375.length co60]] (by rfl) rfl rfl (by (try simp only [List.map_toArray,List.map_cons,List.map_nil]); first|done|rfl|(simp only [List.length_drop,List.length_take]; rfl)) ?_
     with_reducible refine (laws_eqNode.calls kj11 t352 t353 t354 _ _ t355 _ _ t358 t369 t370 t371 _ _ t372 _ _ t375 t378 _ ?side1 ?side2 ?side3 ?side4 ?side5 ?side6 ?side7 ?side8 A55.out).mono ?_
     (case side1=>repeat (first|exact (Kd.R_reads' HO_362003.out).2.2|(with_reducible refine Kd.C_alloc ?_ _)|(with_reducible refine Kd.C_drewN ?_ _)|(with_reducible refine Kd.C_drew ?_)))
     (case side2=>exact (Kd.R_reads' HO_362003.out).2.1)
     (case side3=>repeat (first|exact (Kd.R_reads' HO_362004.out).2.2|(with_reducible refine Kd.C_alloc ?_ _)|(with_reducible refine Kd.C_drewN ?_ _)|(with_reducible refine Kd.C_drew ?_)))
     (case side4=>exact (Kd.R_reads' HO_362004.out).2.1)
     (case side5=>repeat (first|exact (Kd.R_reads' HO374.out).2.2|(with_reducible refine Kd.C_alloc ?_ _)|(with_reducible refine Kd.C_drewN ?_ _)|(with_reducible refine Kd.C_drew ?_)))
     (case side6=>exact (Kd.R_reads' HO374.out).2.1)
     (case side7=>repeat (first|exact (Kd.R_reads' HO377.out).2.2|(with_reducible refine Kd.C_alloc ?_ _)|(with_reducible refine Kd.C_drewN ?_ _)|(with_reducible refine Kd.C_drew ?_)))
     (case side8=>exact (Kd.R_reads' HO377.out).2.1)
     rintro e w61 ⟨rfl,hb⟩
     refine ⟨_,rfl,?_⟩
     have n0_:=Aside0.mk (Kd.R_below (by (with_reducible repeat (first|apply Kd.R_alloc|apply Kd.R_drewN|apply Kd.R_drew)); exact HO_362003.out) hb)
     have n1_:=Aside0.mk (Kd.R_below (by (with_reducible repeat (first|apply Kd.R_alloc|apply Kd.R_drewN|apply Kd.R_drew)); exact HO_362004.out) hb)
     have n2_:=Aside0.mk (Kd.R_below (by (with_reducible repeat (first|apply Kd.R_alloc|apply Kd.R_drewN|apply Kd.R_drew)); exact HO374.out) hb)
     have n3_:=Aside0.mk (Kd.R_below (by (with_reducible repeat (first|apply Kd.R_alloc|apply Kd.R_drewN|apply Kd.R_drew)); exact HO377.out) hb)
     have n4_:=Aside0.mk (blk_below (g:=gb335) (o:=.cells #[.int .i64 a0_0,.int .i64 a0_1,.string a0_2,.slice A0_3 l0_3.length c0_3,.slice A0_4 l0_4.length c0_4] 25 (0,0)) (by (with_reducible repeat (first|refine blk_drewN ?_ _|refine blk_drew ?_|refine blk_alloc ?_ _)); exact BK335.out) hb)
     have n5_:=Aside0.mk (blk_below (g:=gb351) (o:=.cells #[.int .i64 t346,.int .i64 t347,.int .i64 t348,.int .i64 t349] 28 (0,0)) (by (with_reducible repeat (first|refine blk_drewN ?_ _|refine blk_drew ?_|refine blk_alloc ?_ _)); exact BK351.out) hb)
     have n6_:=Aside0.mk (blk_below (g:=gb361) (o:=.cells #[.int .i64 t352,.int .i64 t353,.string t354,.slice Ao27 t355.length co27,.slice Ao28 t358.length co28] 33 (0,0)) (by (with_reducible repeat (first|refine blk_drewN ?_ _|refine blk_drew ?_|refine blk_alloc ?_ _)); exact BK361.out) hb)
     have n7_:=Aside0.mk (blk_below (g:=gb367) (o:=.cells #[.int .i64 t362,.int .i64 t363,.int .i64 t364,.int .i64 t365] 28 (0,0)) (by (with_reducible repeat (first|refine blk_drewN ?_ _|refine blk_drew ?_|refine blk_alloc ?_ _)); exact BK367.out) hb)
     have n8_:=Aside0.mk (below_step (by repeat (first|(with_reducible first|exact HB.out|apply below_alloc|apply pw_below_drewN|apply below_drew1|refine below_set ?_ GE335.out|refine below_set ?_ GE351.out|refine below_set ?_ GE361.out|refine below_set ?_ GE367.out)|exact HB.out)) hb)
     clear HO_362003
     clear HO_362004
     clear HO374
     clear HO377
     clear BK335
     clear BK351
     clear BK361
     clear BK367
     clear HB
     have HO_362003:=n0_
     have HO_362004:=n1_
     have HO374:=n2_
     have HO377:=n3_
     have BK335:=n4_
     have BK351:=n5_
     have BK361:=n6_
     have BK367:=n7_
     have HB:=n8_
     clear n0_ n1_ n2_ n3_ n4_ n5_ n6_ n7_ n8_
     (try clear hb)
     (try clear hb2)
     (try clear hk)
     (try clear hi)
     refine hK.out _ _ ⟨(blk_cell BK361.out 0).trans rfl,(blk_cell BK361.out 1).trans rfl,(blk_cell BK361.out 2).trans rfl,(blk_cell BK361.out 3).trans rfl,(blk_cell BK361.out 4).trans rfl,(blk_cell BK335.out 0).trans rfl,(blk_cell BK335.out 1).trans rfl,(blk_cell BK335.out 2).trans rfl,(blk_cell BK335.out 3).trans rfl,(blk_cell BK335.out 4).trans rfl⟩ (fun hHeld=>?_)
     clear hK K
     refine norm_ (a':=?_) ?_ ?_
     rotate_left
     ·show Act.put _ (some 39) _=_
      simp only [Act.put,List.setIfInBounds_toArray,List.set_cons_zero,List.set_cons_succ,i64_w,i32_w]
      rfl
     refine pure_ (i:=4) (N:=some 40) (v:=_) (a':=_) (bs_ 5 31) rfl rfl (by kernel_rfl) (fun _ _ _ h=>h) (Or.inl ⟨by rfl,by intro w'; go_simp; first|with_reducible rfl|rfl⟩) (by simp only [Act.put,List.setIfInBounds_toArray,List.set_cons_zero,List.set_cons_succ,i64_w,i32_w]; rfl) ?_
     refine done_ (by kernel_rfl) ?_
     go_upto_if 40 with (fail)
     try clear hHeld
     have H:=HC56.out
     clear HC56
     by_cases c62:t378=true
     ·subst c62
      have H1:(some true)=some r:=by rw [if_pos rfl] at H; exact H
      clear H
      have H:=H1
      clear H1
      obtain rfl:=Option.some.inj H
      go_wp2
      go_ret
      exact ⟨by first|rfl|(simp [errW_none,errW_some]<;>rfl)|(simp [*,errW_none,errW_some]<;>rfl),by repeat (first|(with_reducible first|exact HB.out|apply below_alloc|apply pw_below_drewN|apply below_drew1|refine below_set ?_ GE335.out|refine below_set ?_ GE351.out|refine below_set ?_ GE361.out|refine below_set ?_ GE367.out)|exact HB.out)⟩
     ·replace c62:=Bool.eq_false_iff.mpr c62
      subst c62
      have H1:(some false)=some r:=by rw [if_neg (show ¬ (false=true) by decide)] at H; exact H
      clear H
      have H:=H1
      clear H1
      obtain rfl:=Option.some.inj H
      go_wp2
      go_ret
      exact ⟨by first|rfl|(simp [errW_none,errW_some]<;>rfl)|(simp [*,errW_none,errW_some]<;>rfl),by repeat (first|(with_reducible first|exact HB.out|apply below_alloc|apply pw_below_drewN|apply below_drew1|refine below_set ?_ GE335.out|refine below_set ?_ GE351.out|refine below_set ?_ GE361.out|refine below_set ?_ GE367.out)|exact HB.out)⟩
end
end Go.Proofs.Ytdlhidjphaaklaa.P
