import Derived.Test.YtdlhidjphaaklaaP0
import Derived.Test.YtdlhidjphaaklaaP_laws_toNode
namespace Go.Proofs.Ytdlhidjphaaklaa.P
open Go.RowKit Go.Proofs.YtdlhidjphaaklaaW.PrintWords Go.Proofs.YtdlhidjphaaklaaW.PrintLast Go.Proofs.YtdlhidjphaaklaaW.PrintMore
attribute [local go_sem] max2_int min2_int max_two min_two max_three min_three max_four min_four
set_option linter.unusedVariables false
set_option linter.unusedSimpArgs false
noncomputable section
mutual
def impl_allShapes.f:Nat→Int→Int→ByteArray→List ByteArray→List (S33)→Option (Bool)
 |0,_,_,_,_,_=>none
 |k+1,a0_0,a0_1,a0_2,l0_3,l0_4=>(impl_shapeOk.f k a0_0 a0_1 a0_2 l0_3 l0_4).bind fun t260=>(if t260=true then ((impl_Node_68.f k l0_4).bind fun t261=>(some (!t261))) else (some false))
def impl_Node_68.f:Nat→List (S33)→Option (Bool)
 |0,_=>none
 |k+1,l0=>(impl_Node_80.f k l0).bind fun t262=>(some (decide (t262 ≥ 0)))
def impl_allShapes_1.f:Nat→Int→Int→ByteArray→List ByteArray→List (S33)→Option (Bool)
 |0,_,_,_,_,_=>none
 |k+1,a0_0,a0_1,a0_2,l0_3,l0_4=>(impl_allShapes.f k a0_0 a0_1 a0_2 l0_3 l0_4).bind fun t264=>(some (!t264))
def impl_Node_80.l0:Nat→List (S33)→Int→Int→Option (Int)
 |0,_,_,_=>none
 |k+1,x0,x7,x8=>if x8<x7 then (if 0≤x8 then (if x8<(x0.length:Int) then ((impl_allShapes_1.f k ((rd_T33 x0 x8).f0) ((rd_T33 x0 x8).f1) ((rd_T33 x0 x8).f2) ((rd_T33 x0 x8).f3) ((rd_T33 x0 x8).f4)).bind fun t266=>(if t266=true then (some x8) else (impl_Node_80.l0 k x0 x7 (wrap64 (x8+1))))) else (none)) else (none)) else (some (-1))
def impl_Node_80.f:Nat→List (S33)→Option (Int)
 |0,_=>none
 |k+1,l0=>impl_Node_80.l0 k l0 (l0.length:Int) 0
end
theorem impl_allShapes.mono_l:∀ k,(∀ y0 y1 y2 y3 y4,LeO (impl_allShapes.f k y0 y1 y2 y3 y4) (impl_allShapes.f (k+1) y0 y1 y2 y3 y4))∧(∀ y0,LeO (impl_Node_68.f k y0) (impl_Node_68.f (k+1) y0))∧(∀ y0 y1 y2 y3 y4,LeO (impl_allShapes_1.f k y0 y1 y2 y3 y4) (impl_allShapes_1.f (k+1) y0 y1 y2 y3 y4))∧(∀ y0 y1 y2,LeO (impl_Node_80.l0 k y0 y1 y2) (impl_Node_80.l0 (k+1) y0 y1 y2))∧(∀ y0,LeO (impl_Node_80.f k y0) (impl_Node_80.f (k+1) y0))
 |0=>⟨fun _ _ _ _ _ r h=>by simp [impl_allShapes.f] at h,fun _ r h=>by simp [impl_Node_68.f] at h,fun _ _ _ _ _ r h=>by simp [impl_allShapes_1.f] at h,fun _ _ _ r h=>by simp [impl_Node_80.l0] at h,fun _ r h=>by simp [impl_Node_80.f] at h⟩
 |k+1=>by
  obtain ⟨ih0,ih1,ih2,ih3,ih4⟩:=impl_allShapes.mono_l k
  refine ⟨?_,?_,?_,?_,?_⟩
  ·intro y0 y1 y2 y3 y4
   unfold impl_allShapes.f
   repeat' first
   |(with_reducible exact ih0 _ _ _ _ _)
   |(with_reducible exact ih1 _)
   |(with_reducible exact ih2 _ _ _ _ _)
   |(with_reducible exact ih3 _ _ _)
   |(with_reducible exact ih4 _)
   |(with_reducible exact impl_shapeOk.mono _ _ _ _ _ _)
   |(with_reducible exact LeO.refl _)
   |(with_reducible exact LeO.none _)
   |(with_reducible refine LeO.ite ?_ ?_)
   |(with_reducible refine LeO.bind ?_ (fun _=>?_))
   |exact ih0 _ _ _ _ _
   |exact ih1 _
   |exact ih2 _ _ _ _ _
   |exact ih3 _ _ _
   |exact ih4 _
   |exact impl_shapeOk.mono _ _ _ _ _ _
   |exact LeO.none _
   |refine LeO.ite ?_ ?_
   |refine LeO.bind ?_ (fun _=>?_)
  ·intro y0
   unfold impl_Node_68.f
   repeat' first
   |(with_reducible exact ih0 _ _ _ _ _)
   |(with_reducible exact ih1 _)
   |(with_reducible exact ih2 _ _ _ _ _)
   |(with_reducible exact ih3 _ _ _)
   |(with_reducible exact ih4 _)
   |(with_reducible exact impl_shapeOk.mono _ _ _ _ _ _)
   |(with_reducible exact LeO.refl _)
   |(with_reducible exact LeO.none _)
   |(with_reducible refine LeO.ite ?_ ?_)
   |(with_reducible refine LeO.bind ?_ (fun _=>?_))
   |exact ih0 _ _ _ _ _
   |exact ih1 _
   |exact ih2 _ _ _ _ _
   |exact ih3 _ _ _
   |exact ih4 _
   |exact impl_shapeOk.mono _ _ _ _ _ _
   |exact LeO.none _
   |refine LeO.ite ?_ ?_
   |refine LeO.bind ?_ (fun _=>?_)
  ·intro y0 y1 y2 y3 y4
   unfold impl_allShapes_1.f
   repeat' first
   |(with_reducible exact ih0 _ _ _ _ _)
   |(with_reducible exact ih1 _)
   |(with_reducible exact ih2 _ _ _ _ _)
   |(with_reducible exact ih3 _ _ _)
   |(with_reducible exact ih4 _)
   |(with_reducible exact impl_shapeOk.mono _ _ _ _ _ _)
   |(with_reducible exact LeO.refl _)
   |(with_reducible exact LeO.none _)
   |(with_reducible refine LeO.ite ?_ ?_)
   |(with_reducible refine LeO.bind ?_ (fun _=>?_))
   |exact ih0 _ _ _ _ _
   |exact ih1 _
   |exact ih2 _ _ _ _ _
   |exact ih3 _ _ _
   |exact ih4 _
   |exact impl_shapeOk.mono _ _ _ _ _ _
   |exact LeO.none _
   |refine LeO.ite ?_ ?_
   |refine LeO.bind ?_ (fun _=>?_)
  ·intro y0 y1 y2
   unfold impl_Node_80.l0
   repeat' first
   |(with_reducible exact ih0 _ _ _ _ _)
   |(with_reducible exact ih1 _)
   |(with_reducible exact ih2 _ _ _ _ _)
   |(with_reducible exact ih3 _ _ _)
   |(with_reducible exact ih4 _)
   |(with_reducible exact impl_shapeOk.mono _ _ _ _ _ _)
   |(with_reducible exact LeO.refl _)
   |(with_reducible exact LeO.none _)
   |(with_reducible refine LeO.ite ?_ ?_)
   |(with_reducible refine LeO.bind ?_ (fun _=>?_))
   |exact ih0 _ _ _ _ _
   |exact ih1 _
   |exact ih2 _ _ _ _ _
   |exact ih3 _ _ _
   |exact ih4 _
   |exact impl_shapeOk.mono _ _ _ _ _ _
   |exact LeO.none _
   |refine LeO.ite ?_ ?_
   |refine LeO.bind ?_ (fun _=>?_)
  ·intro y0
   unfold impl_Node_80.f
   repeat' first
   |(with_reducible exact ih0 _ _ _ _ _)
   |(with_reducible exact ih1 _)
   |(with_reducible exact ih2 _ _ _ _ _)
   |(with_reducible exact ih3 _ _ _)
   |(with_reducible exact ih4 _)
   |(with_reducible exact impl_shapeOk.mono _ _ _ _ _ _)
   |(with_reducible exact LeO.refl _)
   |(with_reducible exact LeO.none _)
   |(with_reducible refine LeO.ite ?_ ?_)
   |(with_reducible refine LeO.bind ?_ (fun _=>?_))
   |exact ih0 _ _ _ _ _
   |exact ih1 _
   |exact ih2 _ _ _ _ _
   |exact ih3 _ _ _
   |exact ih4 _
   |exact impl_shapeOk.mono _ _ _ _ _ _
   |exact LeO.none _
   |refine LeO.ite ?_ ?_
   |refine LeO.bind ?_ (fun _=>?_)
theorem impl_allShapes.mono:∀ a0 a1 a2 a3 a4 k,LeO (impl_allShapes.f k a0 a1 a2 a3 a4) (impl_allShapes.f (k+1) a0 a1 a2 a3 a4):=by
 intro a0 a1 a2 a3 a4 k
 obtain ⟨ih0,ih1,ih2,ih3,ih4⟩:=impl_allShapes.mono_l k
 exact ih0 a0 a1 a2 a3 a4
theorem impl_Node_68.mono:∀ a0 k,LeO (impl_Node_68.f k a0) (impl_Node_68.f (k+1) a0):=by
 intro a0 k
 obtain ⟨ih0,ih1,ih2,ih3,ih4⟩:=impl_allShapes.mono_l k
 exact ih1 a0
theorem impl_allShapes_1.mono:∀ a0 a1 a2 a3 a4 k,LeO (impl_allShapes_1.f k a0 a1 a2 a3 a4) (impl_allShapes_1.f (k+1) a0 a1 a2 a3 a4):=by
 intro a0 a1 a2 a3 a4 k
 obtain ⟨ih0,ih1,ih2,ih3,ih4⟩:=impl_allShapes.mono_l k
 exact ih2 a0 a1 a2 a3 a4
theorem impl_Node_80.mono:∀ a0 k,LeO (impl_Node_80.f k a0) (impl_Node_80.f (k+1) a0):=by
 intro a0 k
 obtain ⟨ih0,ih1,ih2,ih3,ih4⟩:=impl_allShapes.mono_l k
 exact ih4 a0
set_option maxHeartbeats 8000000 in
set_option maxRecDepth 100000 in
theorem impl_allShapes.calls_all (k:Nat):(∀ (a0_0:Int) (a0_1:Int) (a0_2:ByteArray) (A0_3:Option Addr) (c0_3:Nat) (l0_3:List ByteArray) (A0_4:Option Addr) (c0_4:Nat) (l0_4:List (S33)) (r:Bool) (w:World) (hr0_3:Kd.C Kd.string w A0_3 l0_3.length l0_3) (hc0_3:l0_3.length≤c0_3) (hr0_4:Kd.C k33 w A0_4 l0_4.length l0_4) (hc0_4:l0_4.length≤c0_4) (h:impl_allShapes.f k a0_0 a0_1 a0_2 l0_3 l0_4=some r),
  Calls Try.prog 50 #[.agg #[.int .i64 a0_0,.int .i64 a0_1,.string a0_2,.slice A0_3 l0_3.length c0_3,.slice A0_4 l0_4.length c0_4]] w fun e w'=>e=.returned (.bool r)∧Below w.heap.size w w')∧(∀ (A0:Option Addr) (c0:Nat) (l0:List (S33)) (r:Bool) (w:World) (hr0:Kd.C k33 w A0 l0.length l0) (hc0:l0.length≤c0) (h:impl_Node_68.f k l0=some r),
  Calls Try.prog 68 #[.slice A0 l0.length c0,.func (.func 69) #[] #[]] w fun e w'=>e=.returned (.bool r)∧Below w.heap.size w w')∧(∀ (a0_0:Int) (a0_1:Int) (a0_2:ByteArray) (A0_3:Option Addr) (c0_3:Nat) (l0_3:List ByteArray) (A0_4:Option Addr) (c0_4:Nat) (l0_4:List (S33)) (r:Bool) (w:World) (hr0_3:Kd.C Kd.string w A0_3 l0_3.length l0_3) (hc0_3:l0_3.length≤c0_3) (hr0_4:Kd.C k33 w A0_4 l0_4.length l0_4) (hc0_4:l0_4.length≤c0_4) (h:impl_allShapes_1.f k a0_0 a0_1 a0_2 l0_3 l0_4=some r),
  Calls Try.prog 69 #[.agg #[.int .i64 a0_0,.int .i64 a0_1,.string a0_2,.slice A0_3 l0_3.length c0_3,.slice A0_4 l0_4.length c0_4]] w fun e w'=>e=.returned (.bool r)∧Below w.heap.size w w')∧(∀ (A0:Option Addr) (c0:Nat) (l0:List (S33)) (r:Int) (w:World) (hr0:Kd.C k33 w A0 l0.length l0) (hc0:l0.length≤c0) (h:impl_Node_80.f k l0=some r),
  Calls Try.prog 80 #[.slice A0 l0.length c0,.func (.func 69) #[] #[]] w fun e w'=>e=.returned (.int .i64 r)∧Below w.heap.size w w'):=by
 induction k using Nat.strongRecOn with
 |_ k ihall =>
 have ih_impl_allShapes:=fun k' h'=>(ihall k' h').1
 have ih_impl_Node_68:=fun k' h'=>(ihall k' h').2.1
 have ih_impl_allShapes_1:=fun k' h'=>(ihall k' h').2.2.1
 have ih_impl_Node_80:=fun k' h'=>(ihall k' h').2.2.2
 clear ihall
 refine ⟨?_,?_,?_,?_⟩
 ·skip
  intro a0_0 a0_1 a0_2 A0_3 c0_3 l0_3 A0_4 c0_4 l0_4 r w hr0_3 hc0_3 hr0_4 hc0_4 h
  cases k with
  |zero=>exact absurd h (by simp [impl_allShapes.f])
  |succ k =>
  simp only [impl_allShapes.f] at h
  have hu33:=Try.underlying33
  have HR0_3:=Aside0.mk hr0_3
  have HC0_3:=Aside0.mk hc0_3
  clear hr0_3 hc0_3
  have HR0_4:=Aside0.mk hr0_4
  have HC0_4:=Aside0.mk hc0_4
  clear hr0_4 hc0_4
  have HB:=Aside0.mk (Below.refl w.heap.size w)
  have H:((impl_shapeOk.f k a0_0 a0_1 a0_2 l0_3 l0_4).bind fun t260=>(if t260=true then ((impl_Node_68.f k l0_4).bind fun t261=>(some (!t261))) else (some false)))=some r:=h
  clear h
  replace H:=Option.bind_eq_some_iff.mp H
  obtain ⟨t260,A20,H⟩:=H
  replace H:(if t260=true then ((impl_Node_68.f k l0_4).bind fun t261=>(some (!t261))) else (some false))=some r:=H
  have A2:=Aside0.mk A20
  clear A20
  by_cases c3:t260=true
  ·subst c3
   have H1:((impl_Node_68.f k l0_4).bind fun t261=>(some (!t261)))=some r:=by rw [if_pos rfl] at H; exact H
   clear H
   have H:=H1
   clear H1
   replace H:=Option.bind_eq_some_iff.mp H
   obtain ⟨t261,A40,H⟩:=H
   replace H:(some (!t261))=some r:=H
   have A4:=Aside0.mk A40
   clear A40
   obtain rfl:=Option.some.inj H
   go_enter Try.func50,Try.ntmps50
   go_wp2_with (first|((with_reducible refine gate_dst (N:=1) rfl ?_); refine box_event ?hg (N:=1) ?hd (cs:=#[.int .i64 a0_0,.int .i64 a0_1,.string a0_2,.slice A0_3 l0_3.length c0_3,.slice A0_4 l0_4.length c0_4]) (t:=33) ?hr ?_; (case hd=>rfl); (case hg=>rfl); (case hr=>first|(go_simp; done)|(go_simp; rfl)); intro gb259 hg w5 hbox hb; have n0_:=Aside0.mk (below_step (by repeat (first|(with_reducible first|exact HB.out|apply below_alloc|apply pw_below_drewN|apply below_drew1)|exact HB.out)) hb); have n1_:=Aside0.mk (hbox); have n2_:=Aside0.mk ((by rw [hg]; exact (below_size (by repeat (first|(with_reducible first|exact HB.out|apply below_alloc|apply pw_below_drewN|apply below_drew1)|exact HB.out))):w.heap.size≤gb259)); have n3_:=Aside0.mk ((by rw [hg]; exact (below_size (by repeat (first|(with_reducible first|exact HB.out|apply below_alloc|apply pw_below_drewN|apply below_drew1)|exact HB.out))):w.heap.size≤gb259)); clear HB; have HB:=n0_; have BK259:=n1_; have GW259:=n2_; have GE259:=n3_; clear n0_ n1_ n2_ n3_; clear hb hbox hg; have hcz6_0:w5.cell? ⟨gb259,0,none⟩=some (.int .i64 a0_0):=(blk_cell BK259.out 0).trans rfl; have hcz6_1:w5.cell? ⟨gb259,1,none⟩=some (.int .i64 a0_1):=(blk_cell BK259.out 1).trans rfl; have hcz6_2:w5.cell? ⟨gb259,2,none⟩=some (.string a0_2):=(blk_cell BK259.out 2).trans rfl; have hcz6_3:w5.cell? ⟨gb259,3,none⟩=some (.slice A0_3 l0_3.length c0_3):=(blk_cell BK259.out 3).trans rfl; have hcz6_4:w5.cell? ⟨gb259,4,none⟩=some (.slice A0_4 l0_4.length c0_4):=(blk_cell BK259.out 4).trans rfl; have hfz6_0:=blk_frozen BK259.out 0; have hfz6_1:=blk_frozen BK259.out 1; have hfz6_2:=blk_frozen BK259.out 2; have hfz6_3:=blk_frozen BK259.out 3; have hfz6_4:=blk_frozen BK259.out 4)|((with_reducible refine gate_callee (f:=67) rfl ?_); refine goesL_ (some 4) rfl rfl Try.func67 (by kernel_rfl) rfl #[.agg #[.int .i64 a0_0,.int .i64 a0_1,.string a0_2,.slice A0_3 l0_3.length c0_3,.slice A0_4 l0_4.length c0_4]] rfl (by (try simp only [List.map_toArray,List.map_cons,List.map_nil]); first|done|rfl|(simp only [List.length_drop,List.length_take]; rfl)) ?_; (with_reducible refine (impl_shapeOk.calls k a0_0 a0_1 a0_2 _ _ l0_3 _ _ l0_4 true _ ?side1 ?side2 ?side3 ?side4 A2.out).mono ?_); (case side1=>repeat (first|exact (Kd.C_below HR0_3.out HB.out)|(with_reducible refine Kd.C_alloc ?_ _)|(with_reducible refine Kd.C_drewN ?_ _)|(with_reducible refine Kd.C_drew ?_))); (case side2=>exact HC0_3.out); (case side3=>repeat (first|exact (Kd.C_below HR0_4.out HB.out)|(with_reducible refine Kd.C_alloc ?_ _)|(with_reducible refine Kd.C_drewN ?_ _)|(with_reducible refine Kd.C_drew ?_))); (case side4=>exact HC0_4.out); rintro e w7 ⟨rfl,hb⟩; refine ⟨_,rfl,?_⟩; have n0_:=Aside0.mk (blk_below (g:=gb259) (o:=.cells #[.int .i64 a0_0,.int .i64 a0_1,.string a0_2,.slice A0_3 l0_3.length c0_3,.slice A0_4 l0_4.length c0_4] 33 (0,0)) (by (with_reducible repeat (first|refine blk_drewN ?_ _|refine blk_drew ?_|refine blk_alloc ?_ _)); exact BK259.out) hb); have n1_:=Aside0.mk (below_step (by repeat (first|(with_reducible first|exact HB.out|apply below_alloc|apply pw_below_drewN|apply below_drew1|refine below_set ?_ GE259.out)|exact HB.out)) hb); clear BK259; clear HB; have BK259:=n0_; have HB:=n1_; clear n0_ n1_; (try clear hb); (try clear hb2); (try clear hk); (try clear hi); have hcz8_0:w7.cell? ⟨gb259,0,none⟩=some (.int .i64 a0_0):=(blk_cell BK259.out 0).trans rfl; have hcz8_1:w7.cell? ⟨gb259,1,none⟩=some (.int .i64 a0_1):=(blk_cell BK259.out 1).trans rfl; have hcz8_2:w7.cell? ⟨gb259,2,none⟩=some (.string a0_2):=(blk_cell BK259.out 2).trans rfl; have hcz8_3:w7.cell? ⟨gb259,3,none⟩=some (.slice A0_3 l0_3.length c0_3):=(blk_cell BK259.out 3).trans rfl; have hcz8_4:w7.cell? ⟨gb259,4,none⟩=some (.slice A0_4 l0_4.length c0_4):=(blk_cell BK259.out 4).trans rfl; have hfz8_0:=blk_frozen BK259.out 0; have hfz8_1:=blk_frozen BK259.out 1; have hfz8_2:=blk_frozen BK259.out 2; have hfz8_3:=blk_frozen BK259.out 3; have hfz8_4:=blk_frozen BK259.out 4)|(go_at_call 68; (with_reducible refine (ih_impl_Node_68 k (by omega) _ _ l0_4 t261 _ ?side1 ?side2 A4.out).mono ?_); (case side1=>repeat (first|exact (Kd.C_below HR0_4.out HB.out)|(with_reducible refine Kd.C_alloc ?_ _)|(with_reducible refine Kd.C_drewN ?_ _)|(with_reducible refine Kd.C_drew ?_))); (case side2=>exact HC0_4.out); rintro e w9 ⟨rfl,hb⟩; have n0_:=Aside0.mk (blk_below (g:=gb259) (o:=.cells #[.int .i64 a0_0,.int .i64 a0_1,.string a0_2,.slice A0_3 l0_3.length c0_3,.slice A0_4 l0_4.length c0_4] 33 (0,0)) (by (with_reducible repeat (first|refine blk_drewN ?_ _|refine blk_drew ?_|refine blk_alloc ?_ _)); exact BK259.out) hb); have n1_:=Aside0.mk (below_step (by repeat (first|(with_reducible first|exact HB.out|apply below_alloc|apply pw_below_drewN|apply below_drew1|refine below_set ?_ GE259.out)|exact HB.out)) hb); clear BK259; clear HB; have BK259:=n0_; have HB:=n1_; clear n0_ n1_; (try clear hb); (try clear hb2); (try clear hk); (try clear hi)))
   go_ret
   exact ⟨by first|rfl|(simp [errW_none,errW_some]<;>rfl)|(simp [*,errW_none,errW_some]<;>rfl),by repeat (first|(with_reducible first|exact HB.out|apply below_alloc|apply pw_below_drewN|apply below_drew1|refine below_set ?_ GE259.out)|exact HB.out)⟩
  ·replace c3:=Bool.eq_false_iff.mpr c3
   subst c3
   have H1:(some false)=some r:=by rw [if_neg (show ¬ (false=true) by decide)] at H; exact H
   clear H
   have H:=H1
   clear H1
   obtain rfl:=Option.some.inj H
   go_enter Try.func50,Try.ntmps50
   go_wp2_with (first|((with_reducible refine gate_dst (N:=1) rfl ?_); refine box_event ?hg (N:=1) ?hd (cs:=#[.int .i64 a0_0,.int .i64 a0_1,.string a0_2,.slice A0_3 l0_3.length c0_3,.slice A0_4 l0_4.length c0_4]) (t:=33) ?hr ?_; (case hd=>rfl); (case hg=>rfl); (case hr=>first|(go_simp; done)|(go_simp; rfl)); intro gb259 hg w10 hbox hb; have n0_:=Aside0.mk (below_step (by repeat (first|(with_reducible first|exact HB.out|apply below_alloc|apply pw_below_drewN|apply below_drew1)|exact HB.out)) hb); have n1_:=Aside0.mk (hbox); have n2_:=Aside0.mk ((by rw [hg]; exact (below_size (by repeat (first|(with_reducible first|exact HB.out|apply below_alloc|apply pw_below_drewN|apply below_drew1)|exact HB.out))):w.heap.size≤gb259)); have n3_:=Aside0.mk ((by rw [hg]; exact (below_size (by repeat (first|(with_reducible first|exact HB.out|apply below_alloc|apply pw_below_drewN|apply below_drew1)|exact HB.out))):w.heap.size≤gb259)); clear HB; have HB:=n0_; have BK259:=n1_; have GW259:=n2_; have GE259:=n3_; clear n0_ n1_ n2_ n3_; clear hb hbox hg; have hcz11_0:w10.cell? ⟨gb259,0,none⟩=some (.int .i64 a0_0):=(blk_cell BK259.out 0).trans rfl; have hcz11_1:w10.cell? ⟨gb259,1,none⟩=some (.int .i64 a0_1):=(blk_cell BK259.out 1).trans rfl; have hcz11_2:w10.cell? ⟨gb259,2,none⟩=some (.string a0_2):=(blk_cell BK259.out 2).trans rfl; have hcz11_3:w10.cell? ⟨gb259,3,none⟩=some (.slice A0_3 l0_3.length c0_3):=(blk_cell BK259.out 3).trans rfl; have hcz11_4:w10.cell? ⟨gb259,4,none⟩=some (.slice A0_4 l0_4.length c0_4):=(blk_cell BK259.out 4).trans rfl; have hfz11_0:=blk_frozen BK259.out 0; have hfz11_1:=blk_frozen BK259.out 1; have hfz11_2:=blk_frozen BK259.out 2; have hfz11_3:=blk_frozen BK259.out 3; have hfz11_4:=blk_frozen BK259.out 4)|((with_reducible refine gate_callee (f:=67) rfl ?_); refine goesL_ (some 4) rfl rfl Try.func67 (by kernel_rfl) rfl #[.agg #[.int .i64 a0_0,.int .i64 a0_1,.string a0_2,.slice A0_3 l0_3.length c0_3,.slice A0_4 l0_4.length c0_4]] rfl (by (try simp only [List.map_toArray,List.map_cons,List.map_nil]); first|done|rfl|(simp only [List.length_drop,List.length_take]; rfl)) ?_; (with_reducible refine (impl_shapeOk.calls k a0_0 a0_1 a0_2 _ _ l0_3 _ _ l0_4 false _ ?side1 ?side2 ?side3 ?side4 A2.out).mono ?_); (case side1=>repeat (first|exact (Kd.C_below HR0_3.out HB.out)|(with_reducible refine Kd.C_alloc ?_ _)|(with_reducible refine Kd.C_drewN ?_ _)|(with_reducible refine Kd.C_drew ?_))); (case side2=>exact HC0_3.out); (case side3=>repeat (first|exact (Kd.C_below HR0_4.out HB.out)|(with_reducible refine Kd.C_alloc ?_ _)|(with_reducible refine Kd.C_drewN ?_ _)|(with_reducible refine Kd.C_drew ?_))); (case side4=>exact HC0_4.out); rintro e w12 ⟨rfl,hb⟩; refine ⟨_,rfl,?_⟩; have n0_:=Aside0.mk (blk_below (g:=gb259) (o:=.cells #[.int .i64 a0_0,.int .i64 a0_1,.string a0_2,.slice A0_3 l0_3.length c0_3,.slice A0_4 l0_4.length c0_4] 33 (0,0)) (by (with_reducible repeat (first|refine blk_drewN ?_ _|refine blk_drew ?_|refine blk_alloc ?_ _)); exact BK259.out) hb); have n1_:=Aside0.mk (below_step (by repeat (first|(with_reducible first|exact HB.out|apply below_alloc|apply pw_below_drewN|apply below_drew1|refine below_set ?_ GE259.out)|exact HB.out)) hb); clear BK259; clear HB; have BK259:=n0_; have HB:=n1_; clear n0_ n1_; (try clear hb); (try clear hb2); (try clear hk); (try clear hi)))
   go_ret
   exact ⟨by first|rfl|(simp [errW_none,errW_some]<;>rfl)|(simp [*,errW_none,errW_some]<;>rfl),by repeat (first|(with_reducible first|exact HB.out|apply below_alloc|apply pw_below_drewN|apply below_drew1|refine below_set ?_ GE259.out)|exact HB.out)⟩
 ·skip
  intro A0 c0 l0 r w hr0 hc0 h
  cases k with
  |zero=>exact absurd h (by simp [impl_Node_68.f])
  |succ k =>
  simp only [impl_Node_68.f] at h
  have HR0:=Aside0.mk hr0
  have HC0:=Aside0.mk hc0
  clear hr0 hc0
  have HB:=Aside0.mk (Below.refl w.heap.size w)
  have H:((impl_Node_80.f k l0).bind fun t262=>(some (decide (t262 ≥ 0))))=some r:=h
  clear h
  replace H:=Option.bind_eq_some_iff.mp H
  obtain ⟨t262,A30,H⟩:=H
  replace H:(some (decide (t262 ≥ 0)))=some r:=H
  have A3:=Aside0.mk A30
  clear A30
  obtain rfl:=Option.some.inj H
  go_enter Try.func68,Try.ntmps68
  go_wp2_with (first|((with_reducible refine gate_callee (f:=80) rfl ?_); refine goesL_ (some 7) rfl rfl Try.func80 (by kernel_rfl) rfl #[.slice A0 l0.length c0,.func (.func 69) #[] #[]] rfl (by (try simp only [List.map_toArray,List.map_cons,List.map_nil]); first|done|rfl|(simp only [List.length_drop,List.length_take]; rfl)) ?_; (with_reducible refine (ih_impl_Node_80 k (by omega) _ _ l0 t262 _ ?side1 ?side2 A3.out).mono ?_); (case side1=>repeat (first|exact HR0.out|(with_reducible refine Kd.C_alloc ?_ _)|(with_reducible refine Kd.C_drewN ?_ _)|(with_reducible refine Kd.C_drew ?_))); (case side2=>exact HC0.out); rintro e w4 ⟨rfl,hb⟩; refine ⟨_,rfl,?_⟩; have n0_:=Aside0.mk (below_step (by repeat (first|(with_reducible first|exact HB.out|apply below_alloc|apply pw_below_drewN|apply below_drew1)|exact HB.out)) hb); clear HB; have HB:=n0_; clear n0_; (try clear hb); (try clear hb2); (try clear hk); (try clear hi)))
  go_ret
  exact ⟨by first|rfl|(simp [errW_none,errW_some]<;>rfl)|(simp [*,errW_none,errW_some]<;>rfl),by repeat (first|(with_reducible first|exact HB.out|apply below_alloc|apply pw_below_drewN|apply below_drew1)|exact HB.out)⟩
 ·skip
  intro a0_0 a0_1 a0_2 A0_3 c0_3 l0_3 A0_4 c0_4 l0_4 r w hr0_3 hc0_3 hr0_4 hc0_4 h
  cases k with
  |zero=>exact absurd h (by simp [impl_allShapes_1.f])
  |succ k =>
  simp only [impl_allShapes_1.f] at h
  have hu33:=Try.underlying33
  have HR0_3:=Aside0.mk hr0_3
  have HC0_3:=Aside0.mk hc0_3
  clear hr0_3 hc0_3
  have HR0_4:=Aside0.mk hr0_4
  have HC0_4:=Aside0.mk hc0_4
  clear hr0_4 hc0_4
  have HB:=Aside0.mk (Below.refl w.heap.size w)
  have H:((impl_allShapes.f k a0_0 a0_1 a0_2 l0_3 l0_4).bind fun t264=>(some (!t264)))=some r:=h
  clear h
  replace H:=Option.bind_eq_some_iff.mp H
  obtain ⟨t264,A20,H⟩:=H
  replace H:(some (!t264))=some r:=H
  have A2:=Aside0.mk A20
  clear A20
  obtain rfl:=Option.some.inj H
  go_enter Try.func69,Try.ntmps69
  go_wp2_with (first|((with_reducible refine gate_dst (N:=1) rfl ?_); refine box_event ?hg (N:=1) ?hd (cs:=#[.int .i64 a0_0,.int .i64 a0_1,.string a0_2,.slice A0_3 l0_3.length c0_3,.slice A0_4 l0_4.length c0_4]) (t:=33) ?hr ?_; (case hd=>rfl); (case hg=>rfl); (case hr=>first|(go_simp; done)|(go_simp; rfl)); intro gb263 hg w3 hbox hb; have n0_:=Aside0.mk (below_step (by repeat (first|(with_reducible first|exact HB.out|apply below_alloc|apply pw_below_drewN|apply below_drew1)|exact HB.out)) hb); have n1_:=Aside0.mk (hbox); have n2_:=Aside0.mk ((by rw [hg]; exact (below_size (by repeat (first|(with_reducible first|exact HB.out|apply below_alloc|apply pw_below_drewN|apply below_drew1)|exact HB.out))):w.heap.size≤gb263)); have n3_:=Aside0.mk ((by rw [hg]; exact (below_size (by repeat (first|(with_reducible first|exact HB.out|apply below_alloc|apply pw_below_drewN|apply below_drew1)|exact HB.out))):w.heap.size≤gb263)); clear HB; have HB:=n0_; have BK263:=n1_; have GW263:=n2_; have GE263:=n3_; clear n0_ n1_ n2_ n3_; clear hb hbox hg; have hcz4_0:w3.cell? ⟨gb263,0,none⟩=some (.int .i64 a0_0):=(blk_cell BK263.out 0).trans rfl; have hcz4_1:w3.cell? ⟨gb263,1,none⟩=some (.int .i64 a0_1):=(blk_cell BK263.out 1).trans rfl; have hcz4_2:w3.cell? ⟨gb263,2,none⟩=some (.string a0_2):=(blk_cell BK263.out 2).trans rfl; have hcz4_3:w3.cell? ⟨gb263,3,none⟩=some (.slice A0_3 l0_3.length c0_3):=(blk_cell BK263.out 3).trans rfl; have hcz4_4:w3.cell? ⟨gb263,4,none⟩=some (.slice A0_4 l0_4.length c0_4):=(blk_cell BK263.out 4).trans rfl; have hfz4_0:=blk_frozen BK263.out 0; have hfz4_1:=blk_frozen BK263.out 1; have hfz4_2:=blk_frozen BK263.out 2; have hfz4_3:=blk_frozen BK263.out 3; have hfz4_4:=blk_frozen BK263.out 4)|((with_reducible refine gate_callee (f:=50) rfl ?_); refine goesL_ (some 4) rfl rfl Try.func50 (by kernel_rfl) rfl #[.agg #[.int .i64 a0_0,.int .i64 a0_1,.string a0_2,.slice A0_3 l0_3.length c0_3,.slice A0_4 l0_4.length c0_4]] rfl (by (try simp only [List.map_toArray,List.map_cons,List.map_nil]); first|done|rfl|(simp only [List.length_drop,List.length_take]; rfl)) ?_; (with_reducible refine (ih_impl_allShapes k (by omega) a0_0 a0_1 a0_2 _ _ l0_3 _ _ l0_4 t264 _ ?side1 ?side2 ?side3 ?side4 A2.out).mono ?_); (case side1=>repeat (first|exact (Kd.C_below HR0_3.out HB.out)|(with_reducible refine Kd.C_alloc ?_ _)|(with_reducible refine Kd.C_drewN ?_ _)|(with_reducible refine Kd.C_drew ?_))); (case side2=>exact HC0_3.out); (case side3=>repeat (first|exact (Kd.C_below HR0_4.out HB.out)|(with_reducible refine Kd.C_alloc ?_ _)|(with_reducible refine Kd.C_drewN ?_ _)|(with_reducible refine Kd.C_drew ?_))); (case side4=>exact HC0_4.out); rintro e w5 ⟨rfl,hb⟩; refine ⟨_,rfl,?_⟩; have n0_:=Aside0.mk (blk_below (g:=gb263) (o:=.cells #[.int .i64 a0_0,.int .i64 a0_1,.string a0_2,.slice A0_3 l0_3.length c0_3,.slice A0_4 l0_4.length c0_4] 33 (0,0)) (by (with_reducible repeat (first|refine blk_drewN ?_ _|refine blk_drew ?_|refine blk_alloc ?_ _)); exact BK263.out) hb); have n1_:=Aside0.mk (below_step (by repeat (first|(with_reducible first|exact HB.out|apply below_alloc|apply pw_below_drewN|apply below_drew1|refine below_set ?_ GE263.out)|exact HB.out)) hb); clear BK263; clear HB; have BK263:=n0_; have HB:=n1_; clear n0_ n1_; (try clear hb); (try clear hb2); (try clear hk); (try clear hi)))
  go_ret
  exact ⟨by first|rfl|(simp [errW_none,errW_some]<;>rfl)|(simp [*,errW_none,errW_some]<;>rfl),by repeat (first|(with_reducible first|exact HB.out|apply below_alloc|apply pw_below_drewN|apply below_drew1|refine below_set ?_ GE263.out)|exact HB.out)⟩
 ·skip
  intro A0 c0 l0 r w hr0 hc0 h
  cases k with
  |zero=>exact absurd h (by simp [impl_Node_80.f])
  |succ k =>
  simp only [impl_Node_80.f] at h
  have hu33:=Try.underlying33
  have HR0:=Aside0.mk hr0
  have HC0:=Aside0.mk hc0
  clear hr0 hc0
  have HB:=Aside0.mk (Below.refl w.heap.size w)
  have H:(impl_Node_80.l0 k l0 (l0.length:Int) 0)=some r:=h
  clear h
  have H':=Aside0.mk H
  clear H
  go_enter Try.func80,Try.ntmps80
  go_wp2
  go_loopg [8] k (fun kq v8 w'=>∃ (x8_1:Int),v8=.int .i64 x8_1∧Aside0 (impl_Node_80.l0 kq l0 (l0.length:Int) x8_1=some r)∧Aside0 (kq≤k)∧Aside0 (Below w.heap.size w w'))
  case atStart=>exact ⟨(0),(by first|rfl|(simp; done)|(simp [*]; done)),H',⟨Nat.le_refl _⟩,⟨by repeat (first|(with_reducible first|exact HB.out|apply below_alloc|apply pw_below_drewN|apply below_drew1)|exact HB.out)⟩⟩
  case round =>
   clear H'
   try clear p2
   obtain ⟨x8_1,rfl,HA,HK1,HB⟩:=hrel
   cases gk with
   |zero=>exact absurd HA.out (by simp [impl_Node_80.l0])
   |succ k1 =>
    have H:=HA.out
    clear HA
    simp only [impl_Node_80.l0] at H
    by_cases c3:x8_1<(l0.length:Int)
    ·rw [if_pos c3] at H
     have c3b0:decide (x8_1<(l0.length:Int))=true:=decide_eq_true c3
     clear c3
     by_cases c4:0≤x8_1
     ·rw [if_pos c4] at H
      have c4b0:decide (0≤x8_1)=true:=decide_eq_true c4
      clear c4
      by_cases c5:x8_1<(l0.length:Int)
      ·rw [if_pos c5] at H
       have c5b0:decide (x8_1<(l0.length:Int))=true:=decide_eq_true c5
       clear c5
       replace H:=Option.bind_eq_some_iff.mp H
       obtain ⟨t266,A60,H⟩:=H
       replace H:(if t266=true then (some x8_1) else (impl_Node_80.l0 k1 l0 (l0.length:Int) (wrap64 (x8_1+1))))=some r:=H
       have A6:=Aside0.mk A60
       clear A60
       have HC7:=Aside0.mk H
       clear H
       have p265:0≤(x8_1:Int):=of_decide_eq_true (by first|(with_reducible assumption)|assumption)
       have q265:x8_1<(l0.length:Int):=of_decide_eq_true (by first|(with_reducible assumption)|assumption)
       obtain ⟨ad265,A265_3,c265_3,A265_4,c265_4,e265,hx265_0,hx265_1,hx265_2,hx265_3,hx265_4,hl265_3,hi265_3,hl265_4,hi265_4⟩:=at_T33 HR0.out x8_1 p265 q265
       cases e265
       replace hx265_0:=(HB.out.cell (World.block_lt_of_cell? w _ hx265_0)).trans hx265_0
       replace hx265_1:=(HB.out.cell (World.block_lt_of_cell? w _ hx265_1)).trans hx265_1
       replace hx265_2:=(HB.out.cell (World.block_lt_of_cell? w _ hx265_2)).trans hx265_2
       replace hx265_3:=(HB.out.cell (World.block_lt_of_cell? w _ hx265_3)).trans hx265_3
       replace hx265_4:=(HB.out.cell (World.block_lt_of_cell? w _ hx265_4)).trans hx265_4
       have HR265_3:=Aside0.mk hi265_3
       have HC265_3:=Aside0.mk hl265_3
       clear hi265_3 hl265_3
       have HR265_4:=Aside0.mk hi265_4
       have HC265_4:=Aside0.mk hl265_4
       clear hi265_4 hl265_4
       replace p265:=eq_true p265
       replace q265:=eq_true q265
       go_upto_if 16 with (first|((with_reducible refine gate_calleeV (c:=.tmp 11) rfl ?_); refine goesLV_ (c:=.tmp 11) (some 16) rfl rfl Try.func69 (by kernel_rfl) rfl #[.agg #[.int .i64 ((rd_T33 l0 x8_1).f0),.int .i64 ((rd_T33 l0 x8_1).f1),.string ((rd_T33 l0 x8_1).f2),.slice A265_3 ((rd_T33 l0 x8_1).f3).length c265_3,.slice A265_4 ((rd_T33 l0 x8_1).f4).length c265_4]] rfl (by (try simp only [List.map_toArray,List.map_cons,List.map_nil]); first|done|rfl|(simp only [List.length_drop,List.length_take]; rfl)) ?_; (with_reducible refine (ih_impl_allShapes_1 k1 (by have:=HK1.out; omega) ((rd_T33 l0 x8_1).f0) ((rd_T33 l0 x8_1).f1) ((rd_T33 l0 x8_1).f2) _ _ ((rd_T33 l0 x8_1).f3) _ _ ((rd_T33 l0 x8_1).f4) t266 _ ?side1 ?side2 ?side3 ?side4 A6.out).mono ?_); (case side1=>repeat (first|exact (Kd.C_below HR265_3.out HB.out)|(with_reducible refine Kd.C_alloc ?_ _)|(with_reducible refine Kd.C_drewN ?_ _)|(with_reducible refine Kd.C_drew ?_))); (case side2=>exact HC265_3.out); (case side3=>repeat (first|exact (Kd.C_below HR265_4.out HB.out)|(with_reducible refine Kd.C_alloc ?_ _)|(with_reducible refine Kd.C_drewN ?_ _)|(with_reducible refine Kd.C_drew ?_))); (case side4=>exact HC265_4.out); rintro e w8 ⟨rfl,hb⟩; refine ⟨_,rfl,?_⟩; have n0_:=Aside0.mk (below_step (by repeat (first|(with_reducible first|exact HB.out|apply below_alloc|apply pw_below_drewN|apply below_drew1)|exact HB.out)) hb); clear HB; have HB:=n0_; clear n0_; (try clear hb); (try clear hb2); (try clear hk); (try clear hi)))
       (try simp only [Act.put,List.setIfInBounds_toArray,List.set_cons_zero,List.set_cons_succ])
       try clear hx265_0; try clear hx265_1; try clear hx265_2; try clear hx265_3; try clear hx265_4
       have H:=HC7.out
       clear HC7
       by_cases c9:t266=true
       ·subst c9
        have H1:(some x8_1)=some r:=by rw [if_pos rfl] at H; exact H
        clear H
        have H:=H1
        clear H1
        obtain rfl:=Option.some.inj H
        go_wp2
        go_ret
        exact ⟨by first|rfl|(simp [errW_none,errW_some]<;>rfl)|(simp [*,errW_none,errW_some]<;>rfl),by repeat (first|(with_reducible first|exact HB.out|apply below_alloc|apply pw_below_drewN|apply below_drew1)|exact HB.out)⟩
       ·replace c9:=Bool.eq_false_iff.mpr c9
        subst c9
        have H1:(impl_Node_80.l0 k1 l0 (l0.length:Int) (wrap64 (x8_1+1)))=some r:=by rw [if_neg (show ¬ (false=true) by decide)] at H; exact H
        clear H
        have H:=H1
        clear H1
        have H':=Aside0.mk H
        clear H
        go_wp2
        go_roundg k1
        case measure=>have:=HK1.out; omega
        case rel=>exact ⟨(wrap64 (x8_1+1)),(by first|rfl|(simp; done)|(simp [*]; done)),H',⟨by have:=HK1.out; omega⟩,⟨by repeat (first|(with_reducible first|exact HB.out|apply below_alloc|apply pw_below_drewN|apply below_drew1)|exact HB.out)⟩⟩
      ·rw [if_neg c5] at H
       exact absurd H (by simp)
     ·rw [if_neg c4] at H
      exact absurd H (by simp)
    ·rw [if_neg c3] at H
     have c3b0:decide (x8_1<(l0.length:Int))=false:=decide_eq_false c3
     clear c3
     obtain rfl:=Option.some.inj H
     go_wp2
     go_ret
     exact ⟨by first|rfl|(simp [errW_none,errW_some]<;>rfl)|(simp [*,errW_none,errW_some]<;>rfl),by repeat (first|(with_reducible first|exact HB.out|apply below_alloc|apply pw_below_drewN|apply below_drew1)|exact HB.out)⟩
theorem impl_allShapes.calls (k:Nat):∀ (a0_0:Int) (a0_1:Int) (a0_2:ByteArray) (A0_3:Option Addr) (c0_3:Nat) (l0_3:List ByteArray) (A0_4:Option Addr) (c0_4:Nat) (l0_4:List (S33)) (r:Bool) (w:World) (hr0_3:Kd.C Kd.string w A0_3 l0_3.length l0_3) (hc0_3:l0_3.length≤c0_3) (hr0_4:Kd.C k33 w A0_4 l0_4.length l0_4) (hc0_4:l0_4.length≤c0_4) (h:impl_allShapes.f k a0_0 a0_1 a0_2 l0_3 l0_4=some r),
  Calls Try.prog 50 #[.agg #[.int .i64 a0_0,.int .i64 a0_1,.string a0_2,.slice A0_3 l0_3.length c0_3,.slice A0_4 l0_4.length c0_4]] w fun e w'=>e=.returned (.bool r)∧Below w.heap.size w w':=(impl_allShapes.calls_all k).1
theorem impl_Node_68.calls (k:Nat):∀ (A0:Option Addr) (c0:Nat) (l0:List (S33)) (r:Bool) (w:World) (hr0:Kd.C k33 w A0 l0.length l0) (hc0:l0.length≤c0) (h:impl_Node_68.f k l0=some r),
  Calls Try.prog 68 #[.slice A0 l0.length c0,.func (.func 69) #[] #[]] w fun e w'=>e=.returned (.bool r)∧Below w.heap.size w w':=(impl_allShapes.calls_all k).2.1
theorem impl_allShapes_1.calls (k:Nat):∀ (a0_0:Int) (a0_1:Int) (a0_2:ByteArray) (A0_3:Option Addr) (c0_3:Nat) (l0_3:List ByteArray) (A0_4:Option Addr) (c0_4:Nat) (l0_4:List (S33)) (r:Bool) (w:World) (hr0_3:Kd.C Kd.string w A0_3 l0_3.length l0_3) (hc0_3:l0_3.length≤c0_3) (hr0_4:Kd.C k33 w A0_4 l0_4.length l0_4) (hc0_4:l0_4.length≤c0_4) (h:impl_allShapes_1.f k a0_0 a0_1 a0_2 l0_3 l0_4=some r),
  Calls Try.prog 69 #[.agg #[.int .i64 a0_0,.int .i64 a0_1,.string a0_2,.slice A0_3 l0_3.length c0_3,.slice A0_4 l0_4.length c0_4]] w fun e w'=>e=.returned (.bool r)∧Below w.heap.size w w':=(impl_allShapes.calls_all k).2.2.1
theorem impl_Node_80.calls (k:Nat):∀ (A0:Option Addr) (c0:Nat) (l0:List (S33)) (r:Int) (w:World) (hr0:Kd.C k33 w A0 l0.length l0) (hc0:l0.length≤c0) (h:impl_Node_80.f k l0=some r),
  Calls Try.prog 80 #[.slice A0 l0.length c0,.func (.func 69) #[] #[]] w fun e w'=>e=.returned (.int .i64 r)∧Below w.heap.size w w':=(impl_allShapes.calls_all k).2.2.2
def impl_TreeOk.f (k:Nat) (a0_0:Int) (a0_1:Int) (a0_2:ByteArray) (l0_3:List ByteArray) (l0_4:List (S33)):Option (Bool):=(impl_size.f k a0_0 a0_1 a0_2 l0_3 l0_4 9).bind fun bt268=>(if bt268.1≤200 then (if bt268.2≤8 then ((impl_allShapes.f k a0_0 a0_1 a0_2 l0_3 l0_4).bind fun t270=>(some t270)) else (some false)) else (some false))
theorem impl_TreeOk.mono:∀ a0 a1 a2 a3 a4 k,LeO (impl_TreeOk.f k a0 a1 a2 a3 a4) (impl_TreeOk.f (k+1) a0 a1 a2 a3 a4):=by
 intro a0 a1 a2 a3 a4 k
 unfold impl_TreeOk.f
 repeat' first
   |(with_reducible exact impl_allShapes.mono _ _ _ _ _ _)
   |(with_reducible exact impl_size.mono _ _ _ _ _ _ _)
   |(with_reducible exact LeO.refl _)
   |(with_reducible exact LeO.none _)
   |(with_reducible refine LeO.ite ?_ ?_)
   |(with_reducible refine LeO.bind ?_ (fun _=>?_))
   |exact impl_allShapes.mono _ _ _ _ _ _
   |exact impl_size.mono _ _ _ _ _ _ _
   |exact LeO.none _
   |refine LeO.ite ?_ ?_
   |refine LeO.bind ?_ (fun _=>?_)
set_option maxHeartbeats 8000000 in
set_option maxRecDepth 100000 in
theorem impl_TreeOk.calls (k:Nat) (a0_0:Int) (a0_1:Int) (a0_2:ByteArray) (A0_3:Option Addr) (c0_3:Nat) (l0_3:List ByteArray) (A0_4:Option Addr) (c0_4:Nat) (l0_4:List (S33)) (r:Bool) (w:World) (hr0_3:Kd.C Kd.string w A0_3 l0_3.length l0_3) (hc0_3:l0_3.length≤c0_3) (hr0_4:Kd.C k33 w A0_4 l0_4.length l0_4) (hc0_4:l0_4.length≤c0_4) (h:impl_TreeOk.f k a0_0 a0_1 a0_2 l0_3 l0_4=some r) :
  Calls Try.prog 25 #[.agg #[.int .i64 a0_0,.int .i64 a0_1,.string a0_2,.slice A0_3 l0_3.length c0_3,.slice A0_4 l0_4.length c0_4]] w fun e w'=>e=.returned (.bool r)∧Below w.heap.size w w':=by
 have hu33:=Try.underlying33
 have HR0_3:=Aside0.mk hr0_3
 have HC0_3:=Aside0.mk hc0_3
 clear hr0_3 hc0_3
 have HR0_4:=Aside0.mk hr0_4
 have HC0_4:=Aside0.mk hc0_4
 clear hr0_4 hc0_4
 have HB:=Aside0.mk (Below.refl w.heap.size w)
 have H:((impl_size.f k a0_0 a0_1 a0_2 l0_3 l0_4 9).bind fun bt268=>(if bt268.1≤200 then (if bt268.2≤8 then ((impl_allShapes.f k a0_0 a0_1 a0_2 l0_3 l0_4).bind fun t270=>(some t270)) else (some false)) else (some false)))=some r:=h
 clear h
 replace H:=Option.bind_eq_some_iff.mp H
 obtain ⟨⟨t268,t269⟩,A20,H⟩:=H
 replace H:(if t268≤200 then (if t269≤8 then ((impl_allShapes.f k a0_0 a0_1 a0_2 l0_3 l0_4).bind fun t270=>(some t270)) else (some false)) else (some false))=some r:=H
 have A2:=Aside0.mk A20
 clear A20
 by_cases c3:t268≤200
 ·rw [if_pos c3] at H
  have c3b0:decide (t268≤200)=true:=decide_eq_true c3
  clear c3
  by_cases c4:t269≤8
  ·rw [if_pos c4] at H
   have c4b0:decide (t269≤8)=true:=decide_eq_true c4
   clear c4
   replace H:=Option.bind_eq_some_iff.mp H
   obtain ⟨t270,A50,H⟩:=H
   replace H:(some t270)=some r:=H
   have A5:=Aside0.mk A50
   clear A50
   obtain rfl:=Option.some.inj H
   go_enter Try.func25,Try.ntmps25
   go_wp2_with (first|((with_reducible refine gate_dst (N:=1) rfl ?_); refine box_event ?hg (N:=1) ?hd (cs:=#[.int .i64 a0_0,.int .i64 a0_1,.string a0_2,.slice A0_3 l0_3.length c0_3,.slice A0_4 l0_4.length c0_4]) (t:=33) ?hr ?_; (case hd=>rfl); (case hg=>rfl); (case hr=>first|(go_simp; done)|(go_simp; rfl)); intro gb267 hg w6 hbox hb; have n0_:=Aside0.mk (below_step (by repeat (first|(with_reducible first|exact HB.out|apply below_alloc|apply pw_below_drewN|apply below_drew1)|exact HB.out)) hb); have n1_:=Aside0.mk (hbox); have n2_:=Aside0.mk ((by rw [hg]; exact (below_size (by repeat (first|(with_reducible first|exact HB.out|apply below_alloc|apply pw_below_drewN|apply below_drew1)|exact HB.out))):w.heap.size≤gb267)); have n3_:=Aside0.mk ((by rw [hg]; exact (below_size (by repeat (first|(with_reducible first|exact HB.out|apply below_alloc|apply pw_below_drewN|apply below_drew1)|exact HB.out))):w.heap.size≤gb267)); clear HB; have HB:=n0_; have BK267:=n1_; have GW267:=n2_; have GE267:=n3_; clear n0_ n1_ n2_ n3_; clear hb hbox hg; have hcz7_0:w6.cell? ⟨gb267,0,none⟩=some (.int .i64 a0_0):=(blk_cell BK267.out 0).trans rfl; have hcz7_1:w6.cell? ⟨gb267,1,none⟩=some (.int .i64 a0_1):=(blk_cell BK267.out 1).trans rfl; have hcz7_2:w6.cell? ⟨gb267,2,none⟩=some (.string a0_2):=(blk_cell BK267.out 2).trans rfl; have hcz7_3:w6.cell? ⟨gb267,3,none⟩=some (.slice A0_3 l0_3.length c0_3):=(blk_cell BK267.out 3).trans rfl; have hcz7_4:w6.cell? ⟨gb267,4,none⟩=some (.slice A0_4 l0_4.length c0_4):=(blk_cell BK267.out 4).trans rfl; have hfz7_0:=blk_frozen BK267.out 0; have hfz7_1:=blk_frozen BK267.out 1; have hfz7_2:=blk_frozen BK267.out 2; have hfz7_3:=blk_frozen BK267.out 3; have hfz7_4:=blk_frozen BK267.out 4)|((with_reducible refine gate_callee (f:=49) rfl ?_); refine goesL_ (some 7) rfl rfl Try.func49 (by kernel_rfl) rfl #[.agg #[.int .i64 a0_0,.int .i64 a0_1,.string a0_2,.slice A0_3 l0_3.length c0_3,.slice A0_4 l0_4.length c0_4],.int .i64 9] rfl (by (try simp only [List.map_toArray,List.map_cons,List.map_nil]); first|done|rfl|(simp only [List.length_drop,List.length_take]; rfl)) ?_; (with_reducible refine (impl_size.calls k a0_0 a0_1 a0_2 _ _ l0_3 _ _ l0_4 9 t268 t269 _ ?side1 ?side2 ?side3 ?side4 A2.out).mono ?_); (case side1=>repeat (first|exact (Kd.C_below HR0_3.out HB.out)|(with_reducible refine Kd.C_alloc ?_ _)|(with_reducible refine Kd.C_drewN ?_ _)|(with_reducible refine Kd.C_drew ?_))); (case side2=>exact HC0_3.out); (case side3=>repeat (first|exact (Kd.C_below HR0_4.out HB.out)|(with_reducible refine Kd.C_alloc ?_ _)|(with_reducible refine Kd.C_drewN ?_ _)|(with_reducible refine Kd.C_drew ?_))); (case side4=>exact HC0_4.out); rintro e w8 ⟨rfl,hb⟩; refine ⟨_,rfl,?_⟩; have n0_:=Aside0.mk (blk_below (g:=gb267) (o:=.cells #[.int .i64 a0_0,.int .i64 a0_1,.string a0_2,.slice A0_3 l0_3.length c0_3,.slice A0_4 l0_4.length c0_4] 33 (0,0)) (by (with_reducible repeat (first|refine blk_drewN ?_ _|refine blk_drew ?_|refine blk_alloc ?_ _)); exact BK267.out) hb); have n1_:=Aside0.mk (below_step (by repeat (first|(with_reducible first|exact HB.out|apply below_alloc|apply pw_below_drewN|apply below_drew1|refine below_set ?_ GE267.out)|exact HB.out)) hb); clear BK267; clear HB; have BK267:=n0_; have HB:=n1_; clear n0_ n1_; (try clear hb); (try clear hb2); (try clear hk); (try clear hi); have hcz9_0:w8.cell? ⟨gb267,0,none⟩=some (.int .i64 a0_0):=(blk_cell BK267.out 0).trans rfl; have hcz9_1:w8.cell? ⟨gb267,1,none⟩=some (.int .i64 a0_1):=(blk_cell BK267.out 1).trans rfl; have hcz9_2:w8.cell? ⟨gb267,2,none⟩=some (.string a0_2):=(blk_cell BK267.out 2).trans rfl; have hcz9_3:w8.cell? ⟨gb267,3,none⟩=some (.slice A0_3 l0_3.length c0_3):=(blk_cell BK267.out 3).trans rfl; have hcz9_4:w8.cell? ⟨gb267,4,none⟩=some (.slice A0_4 l0_4.length c0_4):=(blk_cell BK267.out 4).trans rfl; have hfz9_0:=blk_frozen BK267.out 0; have hfz9_1:=blk_frozen BK267.out 1; have hfz9_2:=blk_frozen BK267.out 2; have hfz9_3:=blk_frozen BK267.out 3; have hfz9_4:=blk_frozen BK267.out 4)|(go_at_call 50; (with_reducible refine (impl_allShapes.calls k a0_0 a0_1 a0_2 _ _ l0_3 _ _ l0_4 t270 _ ?side1 ?side2 ?side3 ?side4 A5.out).mono ?_); (case side1=>repeat (first|exact (Kd.C_below HR0_3.out HB.out)|(with_reducible refine Kd.C_alloc ?_ _)|(with_reducible refine Kd.C_drewN ?_ _)|(with_reducible refine Kd.C_drew ?_))); (case side2=>exact HC0_3.out); (case side3=>repeat (first|exact (Kd.C_below HR0_4.out HB.out)|(with_reducible refine Kd.C_alloc ?_ _)|(with_reducible refine Kd.C_drewN ?_ _)|(with_reducible refine Kd.C_drew ?_))); (case side4=>exact HC0_4.out); rintro e w10 ⟨rfl,hb⟩; have n0_:=Aside0.mk (blk_below (g:=gb267) (o:=.cells #[.int .i64 a0_0,.int .i64 a0_1,.string a0_2,.slice A0_3 l0_3.length c0_3,.slice A0_4 l0_4.length c0_4] 33 (0,0)) (by (with_reducible repeat (first|refine blk_drewN ?_ _|refine blk_drew ?_|refine blk_alloc ?_ _)); exact BK267.out) hb); have n1_:=Aside0.mk (below_step (by repeat (first|(with_reducible first|exact HB.out|apply below_alloc|apply pw_below_drewN|apply below_drew1|refine below_set ?_ GE267.out)|exact HB.out)) hb); clear BK267; clear HB; have BK267:=n0_; have HB:=n1_; clear n0_ n1_; (try clear hb); (try clear hb2); (try clear hk); (try clear hi)))
   go_ret
   exact ⟨by first|rfl|(simp [errW_none,errW_some]<;>rfl)|(simp [*,errW_none,errW_some]<;>rfl),by repeat (first|(with_reducible first|exact HB.out|apply below_alloc|apply pw_below_drewN|apply below_drew1|refine below_set ?_ GE267.out)|exact HB.out)⟩
  ·rw [if_neg c4] at H
   have c4b0:decide (t269≤8)=false:=decide_eq_false c4
   clear c4
   obtain rfl:=Option.some.inj H
   go_enter Try.func25,Try.ntmps25
   go_wp2_with (first|((with_reducible refine gate_dst (N:=1) rfl ?_); refine box_event ?hg (N:=1) ?hd (cs:=#[.int .i64 a0_0,.int .i64 a0_1,.string a0_2,.slice A0_3 l0_3.length c0_3,.slice A0_4 l0_4.length c0_4]) (t:=33) ?hr ?_; (case hd=>rfl); (case hg=>rfl); (case hr=>first|(go_simp; done)|(go_simp; rfl)); intro gb267 hg w11 hbox hb; have n0_:=Aside0.mk (below_step (by repeat (first|(with_reducible first|exact HB.out|apply below_alloc|apply pw_below_drewN|apply below_drew1)|exact HB.out)) hb); have n1_:=Aside0.mk (hbox); have n2_:=Aside0.mk ((by rw [hg]; exact (below_size (by repeat (first|(with_reducible first|exact HB.out|apply below_alloc|apply pw_below_drewN|apply below_drew1)|exact HB.out))):w.heap.size≤gb267)); have n3_:=Aside0.mk ((by rw [hg]; exact (below_size (by repeat (first|(with_reducible first|exact HB.out|apply below_alloc|apply pw_below_drewN|apply below_drew1)|exact HB.out))):w.heap.size≤gb267)); clear HB; have HB:=n0_; have BK267:=n1_; have GW267:=n2_; have GE267:=n3_; clear n0_ n1_ n2_ n3_; clear hb hbox hg; have hcz12_0:w11.cell? ⟨gb267,0,none⟩=some (.int .i64 a0_0):=(blk_cell BK267.out 0).trans rfl; have hcz12_1:w11.cell? ⟨gb267,1,none⟩=some (.int .i64 a0_1):=(blk_cell BK267.out 1).trans rfl; have hcz12_2:w11.cell? ⟨gb267,2,none⟩=some (.string a0_2):=(blk_cell BK267.out 2).trans rfl; have hcz12_3:w11.cell? ⟨gb267,3,none⟩=some (.slice A0_3 l0_3.length c0_3):=(blk_cell BK267.out 3).trans rfl; have hcz12_4:w11.cell? ⟨gb267,4,none⟩=some (.slice A0_4 l0_4.length c0_4):=(blk_cell BK267.out 4).trans rfl; have hfz12_0:=blk_frozen BK267.out 0; have hfz12_1:=blk_frozen BK267.out 1; have hfz12_2:=blk_frozen BK267.out 2; have hfz12_3:=blk_frozen BK267.out 3; have hfz12_4:=blk_frozen BK267.out 4)|((with_reducible refine gate_callee (f:=49) rfl ?_); refine goesL_ (some 7) rfl rfl Try.func49 (by kernel_rfl) rfl #[.agg #[.int .i64 a0_0,.int .i64 a0_1,.string a0_2,.slice A0_3 l0_3.length c0_3,.slice A0_4 l0_4.length c0_4],.int .i64 9] rfl (by (try simp only [List.map_toArray,List.map_cons,List.map_nil]); first|done|rfl|(simp only [List.length_drop,List.length_take]; rfl)) ?_; (with_reducible refine (impl_size.calls k a0_0 a0_1 a0_2 _ _ l0_3 _ _ l0_4 9 t268 t269 _ ?side1 ?side2 ?side3 ?side4 A2.out).mono ?_); (case side1=>repeat (first|exact (Kd.C_below HR0_3.out HB.out)|(with_reducible refine Kd.C_alloc ?_ _)|(with_reducible refine Kd.C_drewN ?_ _)|(with_reducible refine Kd.C_drew ?_))); (case side2=>exact HC0_3.out); (case side3=>repeat (first|exact (Kd.C_below HR0_4.out HB.out)|(with_reducible refine Kd.C_alloc ?_ _)|(with_reducible refine Kd.C_drewN ?_ _)|(with_reducible refine Kd.C_drew ?_))); (case side4=>exact HC0_4.out); rintro e w13 ⟨rfl,hb⟩; refine ⟨_,rfl,?_⟩; have n0_:=Aside0.mk (blk_below (g:=gb267) (o:=.cells #[.int .i64 a0_0,.int .i64 a0_1,.string a0_2,.slice A0_3 l0_3.length c0_3,.slice A0_4 l0_4.length c0_4] 33 (0,0)) (by (with_reducible repeat (first|refine blk_drewN ?_ _|refine blk_drew ?_|refine blk_alloc ?_ _)); exact BK267.out) hb); have n1_:=Aside0.mk (below_step (by repeat (first|(with_reducible first|exact HB.out|apply below_alloc|apply pw_below_drewN|apply below_drew1|refine below_set ?_ GE267.out)|exact HB.out)) hb); clear BK267; clear HB; have BK267:=n0_; have HB:=n1_; clear n0_ n1_; (try clear hb); (try clear hb2); (try clear hk); (try clear hi)))
   go_ret
   exact ⟨by first|rfl|(simp [errW_none,errW_some]<;>rfl)|(simp [*,errW_none,errW_some]<;>rfl),by repeat (first|(with_reducible first|exact HB.out|apply below_alloc|apply pw_below_drewN|apply below_drew1|refine below_set ?_ GE267.out)|exact HB.out)⟩
 ·rw [if_neg c3] at H
  have c3b0:decide (t268≤200)=false:=decide_eq_false c3
  clear c3
  obtain rfl:=Option.some.inj H
  go_enter Try.func25,Try.ntmps25
  go_wp2_with (first|((with_reducible refine gate_dst (N:=1) rfl ?_); refine box_event ?hg (N:=1) ?hd (cs:=#[.int .i64 a0_0,.int .i64 a0_1,.string a0_2,.slice A0_3 l0_3.length c0_3,.slice A0_4 l0_4.length c0_4]) (t:=33) ?hr ?_; (case hd=>rfl); (case hg=>rfl); (case hr=>first|(go_simp; done)|(go_simp; rfl)); intro gb267 hg w14 hbox hb; have n0_:=Aside0.mk (below_step (by repeat (first|(with_reducible first|exact HB.out|apply below_alloc|apply pw_below_drewN|apply below_drew1)|exact HB.out)) hb); have n1_:=Aside0.mk (hbox); have n2_:=Aside0.mk ((by rw [hg]; exact (below_size (by repeat (first|(with_reducible first|exact HB.out|apply below_alloc|apply pw_below_drewN|apply below_drew1)|exact HB.out))):w.heap.size≤gb267)); have n3_:=Aside0.mk ((by rw [hg]; exact (below_size (by repeat (first|(with_reducible first|exact HB.out|apply below_alloc|apply pw_below_drewN|apply below_drew1)|exact HB.out))):w.heap.size≤gb267)); clear HB; have HB:=n0_; have BK267:=n1_; have GW267:=n2_; have GE267:=n3_; clear n0_ n1_ n2_ n3_; clear hb hbox hg; have hcz15_0:w14.cell? ⟨gb267,0,none⟩=some (.int .i64 a0_0):=(blk_cell BK267.out 0).trans rfl; have hcz15_1:w14.cell? ⟨gb267,1,none⟩=some (.int .i64 a0_1):=(blk_cell BK267.out 1).trans rfl; have hcz15_2:w14.cell? ⟨gb267,2,none⟩=some (.string a0_2):=(blk_cell BK267.out 2).trans rfl; have hcz15_3:w14.cell? ⟨gb267,3,none⟩=some (.slice A0_3 l0_3.length c0_3):=(blk_cell BK267.out 3).trans rfl; have hcz15_4:w14.cell? ⟨gb267,4,none⟩=some (.slice A0_4 l0_4.length c0_4):=(blk_cell BK267.out 4).trans rfl; have hfz15_0:=blk_frozen BK267.out 0; have hfz15_1:=blk_frozen BK267.out 1; have hfz15_2:=blk_frozen BK267.out 2; have hfz15_3:=blk_frozen BK267.out 3; have hfz15_4:=blk_frozen BK267.out 4)|((with_reducible refine gate_callee (f:=49) rfl ?_); refine goesL_ (some 7) rfl rfl Try.func49 (by kernel_rfl) rfl #[.agg #[.int .i64 a0_0,.int .i64 a0_1,.string a0_2,.slice A0_3 l0_3.length c0_3,.slice A0_4 l0_4.length c0_4],.int .i64 9] rfl (by (try simp only [List.map_toArray,List.map_cons,List.map_nil]); first|done|rfl|(simp only [List.length_drop,List.length_take]; rfl)) ?_; (with_reducible refine (impl_size.calls k a0_0 a0_1 a0_2 _ _ l0_3 _ _ l0_4 9 t268 t269 _ ?side1 ?side2 ?side3 ?side4 A2.out).mono ?_); (case side1=>repeat (first|exact (Kd.C_below HR0_3.out HB.out)|(with_reducible refine Kd.C_alloc ?_ _)|(with_reducible refine Kd.C_drewN ?_ _)|(with_reducible refine Kd.C_drew ?_))); (case side2=>exact HC0_3.out); (case side3=>repeat (first|exact (Kd.C_below HR0_4.out HB.out)|(with_reducible refine Kd.C_alloc ?_ _)|(with_reducible refine Kd.C_drewN ?_ _)|(with_reducible refine Kd.C_drew ?_))); (case side4=>exact HC0_4.out); rintro e w16 ⟨rfl,hb⟩; refine ⟨_,rfl,?_⟩; have n0_:=Aside0.mk (blk_below (g:=gb267) (o:=.cells #[.int .i64 a0_0,.int .i64 a0_1,.string a0_2,.slice A0_3 l0_3.length c0_3,.slice A0_4 l0_4.length c0_4] 33 (0,0)) (by (with_reducible repeat (first|refine blk_drewN ?_ _|refine blk_drew ?_|refine blk_alloc ?_ _)); exact BK267.out) hb); have n1_:=Aside0.mk (below_step (by repeat (first|(with_reducible first|exact HB.out|apply below_alloc|apply pw_below_drewN|apply below_drew1|refine below_set ?_ GE267.out)|exact HB.out)) hb); clear BK267; clear HB; have BK267:=n0_; have HB:=n1_; clear n0_ n1_; (try clear hb); (try clear hb2); (try clear hk); (try clear hi)))
  go_ret
  exact ⟨by first|rfl|(simp [errW_none,errW_some]<;>rfl)|(simp [*,errW_none,errW_some]<;>rfl),by repeat (first|(with_reducible first|exact HB.out|apply below_alloc|apply pw_below_drewN|apply below_drew1|refine below_set ?_ GE267.out)|exact HB.out)⟩
end
end Go.Proofs.Ytdlhidjphaaklaa.P
