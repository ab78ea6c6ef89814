import Derived.Test.YtdlhidjphaaklaaP0
import Derived.Test.YtdlhidjphaaklaaP_spec_Get
namespace Go.Proofs.Ytdlhidjphaaklaa.P
open Go.RowKit Go.Proofs.YtdlhidjphaaklaaW.PrintWords Go.Proofs.YtdlhidjphaaklaaW.PrintLast Go.Proofs.YtdlhidjphaaklaaW.PrintMore
attribute [local go_sem] max2_int min2_int max_two min_two max_three min_three max_four min_four
set_option linter.unusedVariables false
set_option linter.unusedSimpArgs false
noncomputable section
mutual
def spec_l2Times.l0:Nat→ByteArray→List ByteArray→List Int→Int→Int→Int→Bool→Int→Option (Int × Bool)
 |0,_,_,_,_,_,_,_,_=>none
 |k+1,x0,x1,x2,x3,x10,x11,x12,x13=>if x13<(x1.length:Int) then (spec_l2Times.j1 k x0 x1 x2 x3 x10 x11 x12 x13 x12) else (spec_l2Times.j1 k x0 x1 x2 x3 x10 x11 x12 x13 false)
def spec_l2Times.j1:Nat→ByteArray→List ByteArray→List Int→Int→Int→Int→Bool→Int→Bool→Option (Int × Bool)
 |0,_,_,_,_,_,_,_,_,_=>none
 |k+1,x0,x1,x2,x3,x10,x11,x12,x13,x29=>if x29=true then (if 0≤x10 then (if x10≤(x0.size:Int) then (if 0≤x13 then (if x13<(x1.length:Int) then (if (x0.extract (x10:Int).toNat x0.size).toList=(rdOf ByteArray.empty x1 x13).toList then (if x13<(x2.length:Int) then (if (rd x2 x13)=0 then (none) else (if x11≤(wrap64 (Int.tdiv x3 (rd x2 x13))) then (some (wrap64 (x11*(rd x2 x13)),true)) else (spec_l2Times.l0 k x0 x1 x2 x3 x10 x11 x12 (wrap64 (x13+1))))) else (none)) else (spec_l2Times.l0 k x0 x1 x2 x3 x10 x11 x12 (wrap64 (x13+1)))) else (none)) else (none)) else (none)) else (none)) else (some (0,false))
end
def spec_l2Times.f (k:Nat) (a0:ByteArray) (l1:List ByteArray) (l2:List Int) (a3:Int):Option (Int × Bool):=(spec_l2Head.f k a0).bind fun t178=>(if 0≤t178 then (if t178≤(a0.size:Int) then ((spec_Number.f k (a0.extract 0 (t178:Int).toNat)).bind fun bt179=>(spec_l2Times.l0 k a0 l1 l2 a3 t178 bt179.1 bt179.2 0)) else (none)) else (none))
theorem spec_l2Times.mono_l:∀ k,(∀ y0 y1 y2 y3 y4 y5 y6 y7,LeO (spec_l2Times.l0 k y0 y1 y2 y3 y4 y5 y6 y7) (spec_l2Times.l0 (k+1) y0 y1 y2 y3 y4 y5 y6 y7))∧(∀ y0 y1 y2 y3 y4 y5 y6 y7 y8,LeO (spec_l2Times.j1 k y0 y1 y2 y3 y4 y5 y6 y7 y8) (spec_l2Times.j1 (k+1) y0 y1 y2 y3 y4 y5 y6 y7 y8))
 |0=>⟨fun _ _ _ _ _ _ _ _ r h=>by simp [spec_l2Times.l0] at h,fun _ _ _ _ _ _ _ _ _ r h=>by simp [spec_l2Times.j1] at h⟩
 |k+1=>by
  obtain ⟨ih0,ih1⟩:=spec_l2Times.mono_l k
  refine ⟨?_,?_⟩
  ·intro y0 y1 y2 y3 y4 y5 y6 y7
   unfold spec_l2Times.l0
   repeat' first
   |(with_reducible exact ih0 _ _ _ _ _ _ _ _)
   |(with_reducible exact ih1 _ _ _ _ _ _ _ _ _)
   |(with_reducible exact spec_Number.mono _ _)
   |(with_reducible exact spec_l2Head.mono _ _)
   |(with_reducible exact LeO.refl _)
   |(with_reducible exact LeO.none _)
   |(with_reducible refine LeO.ite ?_ ?_)
   |(with_reducible refine LeO.bind ?_ (fun _=>?_))
   |exact ih0 _ _ _ _ _ _ _ _
   |exact ih1 _ _ _ _ _ _ _ _ _
   |exact spec_Number.mono _ _
   |exact spec_l2Head.mono _ _
   |exact LeO.none _
   |refine LeO.ite ?_ ?_
   |refine LeO.bind ?_ (fun _=>?_)
  ·intro y0 y1 y2 y3 y4 y5 y6 y7 y8
   unfold spec_l2Times.j1
   repeat' first
   |(with_reducible exact ih0 _ _ _ _ _ _ _ _)
   |(with_reducible exact ih1 _ _ _ _ _ _ _ _ _)
   |(with_reducible exact spec_Number.mono _ _)
   |(with_reducible exact spec_l2Head.mono _ _)
   |(with_reducible exact LeO.refl _)
   |(with_reducible exact LeO.none _)
   |(with_reducible refine LeO.ite ?_ ?_)
   |(with_reducible refine LeO.bind ?_ (fun _=>?_))
   |exact ih0 _ _ _ _ _ _ _ _
   |exact ih1 _ _ _ _ _ _ _ _ _
   |exact spec_Number.mono _ _
   |exact spec_l2Head.mono _ _
   |exact LeO.none _
   |refine LeO.ite ?_ ?_
   |refine LeO.bind ?_ (fun _=>?_)
theorem spec_l2Times.mono:∀ a0 a1 a2 a3 k,LeO (spec_l2Times.f k a0 a1 a2 a3) (spec_l2Times.f (k+1) a0 a1 a2 a3):=by
 intro a0 a1 a2 a3 k
 obtain ⟨ih0,ih1⟩:=spec_l2Times.mono_l k
 unfold spec_l2Times.f
 repeat' first
   |(with_reducible exact ih0 _ _ _ _ _ _ _ _)
   |(with_reducible exact ih1 _ _ _ _ _ _ _ _ _)
   |(with_reducible exact spec_Number.mono _ _)
   |(with_reducible exact spec_l2Head.mono _ _)
   |(with_reducible exact LeO.refl _)
   |(with_reducible exact LeO.none _)
   |(with_reducible refine LeO.ite ?_ ?_)
   |(with_reducible refine LeO.bind ?_ (fun _=>?_))
   |exact ih0 _ _ _ _ _ _ _ _
   |exact ih1 _ _ _ _ _ _ _ _ _
   |exact spec_Number.mono _ _
   |exact spec_l2Head.mono _ _
   |exact LeO.none _
   |refine LeO.ite ?_ ?_
   |refine LeO.bind ?_ (fun _=>?_)
set_option maxHeartbeats 8000000 in
set_option maxRecDepth 100000 in
theorem spec_l2Times.calls (k:Nat) (a0:ByteArray) (A1:Option Addr) (c1:Nat) (l1:List ByteArray) (A2:Option Addr) (c2:Nat) (l2:List Int) (a3:Int) (r1:Int) (r2:Bool) (w:World) (hr1:Kd.C Kd.string w A1 l1.length l1) (hc1:l1.length≤c1) (hr2:Kd.C (Kd.int .i64) w A2 l2.length l2) (hc2:l2.length≤c2) (h:spec_l2Times.f k a0 l1 l2 a3=some (r1,r2)) :
  Calls Try.prog 66 #[.string a0,.slice A1 l1.length c1,.slice A2 l2.length c2,.int .i64 a3] w fun e w'=>e=.returned (.tuple #[.int .i64 r1,.bool r2])∧Below w.heap.size w w':=by
 have HR1:=Aside0.mk hr1
 have HC1:=Aside0.mk hc1
 clear hr1 hc1
 have HR2:=Aside0.mk hr2
 have HC2:=Aside0.mk hc2
 clear hr2 hc2
 have HB:=Aside0.mk (Below.refl w.heap.size w)
 have H:((spec_l2Head.f k a0).bind fun t178=>(if 0≤t178 then (if t178≤(a0.size:Int) then ((spec_Number.f k (a0.extract 0 (t178:Int).toNat)).bind fun bt179=>(spec_l2Times.l0 k a0 l1 l2 a3 t178 bt179.1 bt179.2 0)) else (none)) else (none)))=some (r1,r2):=h
 clear h
 replace H:=Option.bind_eq_some_iff.mp H
 obtain ⟨t178,A50,H⟩:=H
 replace H:(if 0≤t178 then (if t178≤(a0.size:Int) then ((spec_Number.f k (a0.extract 0 (t178:Int).toNat)).bind fun bt179=>(spec_l2Times.l0 k a0 l1 l2 a3 t178 bt179.1 bt179.2 0)) else (none)) else (none))=some (r1,r2):=H
 have A5:=Aside0.mk A50
 clear A50
 by_cases c6:0≤t178
 ·rw [if_pos c6] at H
  have c6b0:=eq_true c6
  have c6b1:decide (0≤t178)=true:=decide_eq_true c6
  clear c6
  by_cases c7:t178≤(a0.size:Int)
  ·rw [if_pos c7] at H
   have c7b0:=eq_true c7
   have c7b1:decide (t178≤(a0.size:Int))=true:=decide_eq_true c7
   clear c7
   replace H:=Option.bind_eq_some_iff.mp H
   obtain ⟨⟨t179,t180⟩,A80,H⟩:=H
   replace H:(spec_l2Times.l0 k a0 l1 l2 a3 t178 t179 t180 0)=some (r1,r2):=H
   have A8:=Aside0.mk A80
   clear A80
   have H':=Aside0.mk H
   clear H
   go_enter Try.func66,Try.ntmps66
   go_wp2_with (first|(go_at_call 77; (with_reducible refine (spec_l2Head.calls k a0 t178 _ A5.out).mono ?_); rintro e w' ⟨rfl,⟨nd,rfl⟩⟩; (try first|exact ⟨rfl,_,World.drewN_drewN _ _ _⟩|exact ⟨rfl,_,Eq.trans (World.drewN_drewN _ _ _) (congrArg (World.drewN _) (Nat.add_assoc _ _ _))⟩))|(go_at_call 78; (with_reducible refine (spec_Number.calls k (a0.extract 0 (t178:Int).toNat) t179 t180 _ A8.out).mono ?_); rintro e w9 ⟨rfl,hb⟩; have n0_:=Aside0.mk (below_step (by repeat (first|(with_reducible first|exact HB.out|apply below_alloc|apply pw_below_drewN|apply below_drew1)|exact HB.out)) hb); clear HB; have HB:=n0_; clear n0_; (try clear hb); (try clear hb2); (try clear hk); (try clear hi)))
   repeat (go_quiet (first|(go_at_call 77; (with_reducible refine (spec_l2Head.calls k a0 t178 _ A5.out).mono ?_); rintro e w' ⟨rfl,⟨nd,rfl⟩⟩; (try first|exact ⟨rfl,_,World.drewN_drewN _ _ _⟩|exact ⟨rfl,_,Eq.trans (World.drewN_drewN _ _ _) (congrArg (World.drewN _) (Nat.add_assoc _ _ _))⟩))|(go_at_call 78; (with_reducible refine (spec_Number.calls k (a0.extract 0 (t178:Int).toNat) t179 t180 _ A8.out).mono ?_); rintro e w9 ⟨rfl,hb⟩; have n0_:=Aside0.mk (below_step (by repeat (first|(with_reducible first|exact HB.out|apply below_alloc|apply pw_below_drewN|apply below_drew1)|exact HB.out)) hb); clear HB; have HB:=n0_; clear n0_; (try clear hb); (try clear hb2); (try clear hk); (try clear hi))); try go_wp2_with (first|(go_at_call 77; (with_reducible refine (spec_l2Head.calls k a0 t178 _ A5.out).mono ?_); rintro e w' ⟨rfl,⟨nd,rfl⟩⟩; (try first|exact ⟨rfl,_,World.drewN_drewN _ _ _⟩|exact ⟨rfl,_,Eq.trans (World.drewN_drewN _ _ _) (congrArg (World.drewN _) (Nat.add_assoc _ _ _))⟩))|(go_at_call 78; (with_reducible refine (spec_Number.calls k (a0.extract 0 (t178:Int).toNat) t179 t180 _ A8.out).mono ?_); rintro e w9 ⟨rfl,hb⟩; have n0_:=Aside0.mk (below_step (by repeat (first|(with_reducible first|exact HB.out|apply below_alloc|apply pw_below_drewN|apply below_drew1)|exact HB.out)) hb); clear HB; have HB:=n0_; clear n0_; (try clear hb); (try clear hb2); (try clear hk); (try clear hi))))
   go_loopg [13] k (fun kq v13 w'=>∃ (x13_1:Int),v13=.int .i64 x13_1∧Aside0 (spec_l2Times.l0 kq a0 l1 l2 a3 t178 t179 t180 x13_1=some (r1,r2))∧Aside0 (kq≤k)∧Aside0 (Below w.heap.size w w'))
   case atStart=>exact ⟨(0),(by first|rfl|(simp; done)|(simp [*]; done)),H',⟨Nat.le_refl _⟩,⟨by repeat (first|(with_reducible first|exact HB.out|apply below_alloc|apply pw_below_drewN|apply below_drew1)|exact HB.out)⟩⟩
   case round =>
    clear H'
    try clear c1
    try clear c2
    try clear p2
    try clear c6
    try clear c6b0
    try clear c6b1
    try clear c7
    try clear c7b0
    try clear c7b1
    obtain ⟨x13_1,rfl,HA,HK1,HB⟩:=hrel
    cases gk with
    |zero=>exact absurd HA.out (by simp [spec_l2Times.l0])
    |succ k1 =>
     have H:=HA.out
     clear HA
     simp only [spec_l2Times.l0] at H
     have HC10:=Aside0.mk H
     clear H
     go_upto_region 4 with (fail)
     repeat (go_quiet (fail); go_upto_region 4 with (fail))
     go_cut [29] (fun v29 wc=>∃ (kq:Nat) (x29_9:Bool),v29=.bool x29_9∧Aside0 (spec_l2Times.j1 kq a0 l1 l2 a3 t178 t179 t180 x13_1 x29_9=some (r1,r2))∧Aside0 (kq≤k1)∧Aside0 (Below w.heap.size w wc))
     case first =>
      have H:=HC10.out
      clear HC10
      by_cases c11:x13_1<(l1.length:Int)
      ·rw [if_pos c11] at H
       have c11b0:decide (x13_1<(l1.length:Int))=true:=decide_eq_true c11
       clear c11
       (first|rw [c11b0]|(simp only [i64_w,i32_w]; rw [c11b0])|skip)
       have H':=Aside0.mk H
       clear H
       go_wp2
       repeat (go_quiet (fail); try go_wp2)
       go_meet
       case rel=>exact ⟨_,(t180),(by first|rfl|(simp; done)|(simp [*]; done)),H',⟨by have:=HK1.out; first|omega|exact Nat.le_refl _⟩,⟨by repeat (first|(with_reducible first|exact HB.out|apply below_alloc|apply pw_below_drewN|apply below_drew1)|exact HB.out)⟩⟩
      ·rw [if_neg c11] at H
       have c11b0:decide (x13_1<(l1.length:Int))=false:=decide_eq_false c11
       clear c11
       (first|rw [c11b0]|(simp only [i64_w,i32_w]; rw [c11b0])|skip)
       have H':=Aside0.mk H
       clear H
       go_wp2
       repeat (go_quiet (fail); try go_wp2)
       go_meet
       case rel=>exact ⟨_,(false),(by first|rfl|(simp; done)|(simp [*]; done)),H',⟨by have:=HK1.out; first|omega|exact Nat.le_refl _⟩,⟨by repeat (first|(with_reducible first|exact HB.out|apply below_alloc|apply pw_below_drewN|apply below_drew1)|exact HB.out)⟩⟩
     case rest =>
      clear HC10
      try clear c1
      try clear c2
      try clear p2
      try clear c6
      try clear c6b0
      try clear c6b1
      try clear c7
      try clear c7b0
      try clear c7b1
      try clear c11
      try clear c11b0
      try clear p2
      obtain ⟨kq,x29_9,rfl,HA,HJ9,HB⟩:=hcut
      cases kq with
      |zero=>exact absurd HA.out (by simp [spec_l2Times.j1])
      |succ kj9 =>
       have H:=HA.out
       clear HA
       simp only [spec_l2Times.j1] at H
       by_cases c12:x29_9=true
       ·subst c12
        have H1:(if 0≤t178 then (if t178≤(a0.size:Int) then (if 0≤x13_1 then (if x13_1<(l1.length:Int) then (if (a0.extract (t178:Int).toNat a0.size).toList=(rdOf ByteArray.empty l1 x13_1).toList then (if x13_1<(l2.length:Int) then (if (rd l2 x13_1)=0 then (none) else (if t179≤(wrap64 (Int.tdiv a3 (rd l2 x13_1))) then (some (wrap64 (t179*(rd l2 x13_1)),true)) else (spec_l2Times.l0 kj9 a0 l1 l2 a3 t178 t179 t180 (wrap64 (x13_1+1))))) else (none)) else (spec_l2Times.l0 kj9 a0 l1 l2 a3 t178 t179 t180 (wrap64 (x13_1+1)))) else (none)) else (none)) else (none)) else (none))=some (r1,r2):=by rw [if_pos rfl] at H; exact H
        clear H
        have H:=H1
        clear H1
        by_cases c13:0≤t178
        ·rw [if_pos c13] at H
         have c13b0:=eq_true c13
         have c13b1:decide (0≤t178)=true:=decide_eq_true c13
         clear c13
         by_cases c14:t178≤(a0.size:Int)
         ·rw [if_pos c14] at H
          have c14b0:=eq_true c14
          have c14b1:decide (t178≤(a0.size:Int))=true:=decide_eq_true c14
          clear c14
          by_cases c15:0≤x13_1
          ·rw [if_pos c15] at H
           have c15b0:decide (0≤x13_1)=true:=decide_eq_true c15
           clear c15
           by_cases c16:x13_1<(l1.length:Int)
           ·rw [if_pos c16] at H
            have c16b0:decide (x13_1<(l1.length:Int))=true:=decide_eq_true c16
            clear c16
            by_cases c17:(a0.extract (t178:Int).toNat a0.size).toList=(rdOf ByteArray.empty l1 x13_1).toList
            ·rw [if_pos c17] at H
             have c17b0:((a0.extract (t178:Int).toNat a0.size).toList == (rdOf ByteArray.empty l1 x13_1).toList)=true:=beq_iff_eq.mpr c17
             have c17b1:((a0.extract (t178:Int).toNat a0.size).toList != (rdOf ByteArray.empty l1 x13_1).toList)=false:=bne_eq_false_iff_eq.mpr c17
             clear c17
             by_cases c18:x13_1<(l2.length:Int)
             ·rw [if_pos c18] at H
              have c18b0:decide (x13_1<(l2.length:Int))=true:=decide_eq_true c18
              clear c18
              by_cases c19:(rd l2 x13_1)=0
              ·rw [if_pos c19] at H
               exact absurd H (by simp)
              ·rw [if_neg c19] at H
               have c19b0:((rd l2 x13_1) == 0)=false:=beq_eq_false_iff_ne.mpr c19
               have c19b1:((rd l2 x13_1) != 0)=true:=bne_iff_ne.mpr c19
               by_cases c20:t179≤(wrap64 (Int.tdiv a3 (rd l2 x13_1)))
               ·rw [if_pos c20] at H
                have c20b0:decide (t179≤(wrap64 (Int.tdiv a3 (rd l2 x13_1))))=true:=decide_eq_true c20
                clear c20
                simp only [Option.some.injEq,Prod.mk.injEq] at H
                obtain ⟨rfl,rfl⟩:=H
                have p181:0≤(x13_1:Int):=of_decide_eq_true (by first|(with_reducible assumption)|assumption)
                have q181:x13_1<(l1.length:Int):=of_decide_eq_true (by first|(with_reducible assumption)|assumption)
                obtain ⟨ad181,e181,hx181_0⟩:=Kd.at_string HR1.out x13_1 p181 q181
                cases e181
                replace hx181_0:=(HB.out.cell (World.block_lt_of_cell? w _ hx181_0)).trans hx181_0
                replace p181:=eq_true p181
                replace q181:=eq_true q181
                have p182:0≤(x13_1:Int):=of_decide_eq_true (by first|(with_reducible assumption)|assumption)
                have q182:x13_1<(l2.length:Int):=of_decide_eq_true (by first|(with_reducible assumption)|assumption)
                obtain ⟨ad182,e182,hx182_0⟩:=Kd.at_int HR2.out x13_1 p182 q182
                cases e182
                replace hx182_0:=(HB.out.cell (World.block_lt_of_cell? w _ hx182_0)).trans hx182_0
                replace p182:=eq_true p182
                replace q182:=eq_true q182
                have p183:0≤(x13_1:Int):=of_decide_eq_true (by first|(with_reducible assumption)|assumption)
                have q183:x13_1<(l2.length:Int):=of_decide_eq_true (by first|(with_reducible assumption)|assumption)
                obtain ⟨ad183,e183,hx183_0⟩:=Kd.at_int HR2.out x13_1 p183 q183
                obtain rfl:ad182=ad183:=(by injection e183)
                replace hx183_0:=(HB.out.cell (World.block_lt_of_cell? w _ hx183_0)).trans hx183_0
                replace p183:=eq_true p183
                replace q183:=eq_true q183
                go_wp2
                repeat (go_quiet (fail); try go_wp2)
                go_ret2
                exact ⟨by first|rfl|(simp [errW_none,errW_some]<;>rfl)|(simp [*,errW_none,errW_some]<;>rfl),by repeat (first|(with_reducible first|exact HB.out|apply below_alloc|apply pw_below_drewN|apply below_drew1)|exact HB.out)⟩
               ·rw [if_neg c20] at H
                have c20b0:decide (t179≤(wrap64 (Int.tdiv a3 (rd l2 x13_1))))=false:=decide_eq_false c20
                clear c20
                have H':=Aside0.mk H
                clear H
                have p181:0≤(x13_1:Int):=of_decide_eq_true (by first|(with_reducible assumption)|assumption)
                have q181:x13_1<(l1.length:Int):=of_decide_eq_true (by first|(with_reducible assumption)|assumption)
                obtain ⟨ad181,e181,hx181_0⟩:=Kd.at_string HR1.out x13_1 p181 q181
                cases e181
                replace hx181_0:=(HB.out.cell (World.block_lt_of_cell? w _ hx181_0)).trans hx181_0
                replace p181:=eq_true p181
                replace q181:=eq_true q181
                have p182:0≤(x13_1:Int):=of_decide_eq_true (by first|(with_reducible assumption)|assumption)
                have q182:x13_1<(l2.length:Int):=of_decide_eq_true (by first|(with_reducible assumption)|assumption)
                obtain ⟨ad182,e182,hx182_0⟩:=Kd.at_int HR2.out x13_1 p182 q182
                cases e182
                replace hx182_0:=(HB.out.cell (World.block_lt_of_cell? w _ hx182_0)).trans hx182_0
                replace p182:=eq_true p182
                replace q182:=eq_true q182
                go_wp2
                repeat (go_quiet (fail); try go_wp2)
                go_roundg kj9
                case measure=>have:=HK1.out; have:=HJ9.out; omega
                case rel=>exact ⟨(wrap64 (x13_1+1)),(by first|rfl|(simp; done)|(simp [*]; done)),H',⟨by have:=HK1.out; have:=HJ9.out; omega⟩,⟨by repeat (first|(with_reducible first|exact HB.out|apply below_alloc|apply pw_below_drewN|apply below_drew1)|exact HB.out)⟩⟩
             ·rw [if_neg c18] at H
              exact absurd H (by simp)
            ·rw [if_neg c17] at H
             have c17b0:((a0.extract (t178:Int).toNat a0.size).toList == (rdOf ByteArray.empty l1 x13_1).toList)=false:=beq_eq_false_iff_ne.mpr c17
             have c17b1:((a0.extract (t178:Int).toNat a0.size).toList != (rdOf ByteArray.empty l1 x13_1).toList)=true:=bne_iff_ne.mpr c17
             have H':=Aside0.mk H
             clear H
             have p181:0≤(x13_1:Int):=of_decide_eq_true (by first|(with_reducible assumption)|assumption)
             have q181:x13_1<(l1.length:Int):=of_decide_eq_true (by first|(with_reducible assumption)|assumption)
             obtain ⟨ad181,e181,hx181_0⟩:=Kd.at_string HR1.out x13_1 p181 q181
             cases e181
             replace hx181_0:=(HB.out.cell (World.block_lt_of_cell? w _ hx181_0)).trans hx181_0
             replace p181:=eq_true p181
             replace q181:=eq_true q181
             go_wp2
             repeat (go_quiet (fail); try go_wp2)
             go_roundg kj9
             case measure=>have:=HK1.out; have:=HJ9.out; omega
             case rel=>exact ⟨(wrap64 (x13_1+1)),(by first|rfl|(simp; done)|(simp [*]; done)),H',⟨by have:=HK1.out; have:=HJ9.out; omega⟩,⟨by repeat (first|(with_reducible first|exact HB.out|apply below_alloc|apply pw_below_drewN|apply below_drew1)|exact HB.out)⟩⟩
           ·rw [if_neg c16] at H
            exact absurd H (by simp)
          ·rw [if_neg c15] at H
           exact absurd H (by simp)
         ·rw [if_neg c14] at H
          exact absurd H (by simp)
        ·rw [if_neg c13] at H
         exact absurd H (by simp)
       ·replace c12:=Bool.eq_false_iff.mpr c12
        subst c12
        have H1:(some (0,false))=some (r1,r2):=by rw [if_neg (show ¬ (false=true) by decide)] at H; exact H
        clear H
        have H:=H1
        clear H1
        simp only [Option.some.injEq,Prod.mk.injEq] at H
        obtain ⟨rfl,rfl⟩:=H
        go_wp2
        repeat (go_quiet (fail); try go_wp2)
        go_ret2
        exact ⟨by first|rfl|(simp [errW_none,errW_some]<;>rfl)|(simp [*,errW_none,errW_some]<;>rfl),by repeat (first|(with_reducible first|exact HB.out|apply below_alloc|apply pw_below_drewN|apply below_drew1)|exact HB.out)⟩
  ·rw [if_neg c7] at H
   exact absurd H (by simp)
 ·rw [if_neg c6] at H
  exact absurd H (by simp)
def spec_SpanOf.f (k:Nat) (a0:ByteArray):Option (Int × Bool):=(spec_l2Times.f k a0 (([(⟨#[104]⟩:ByteArray),(⟨#[109]⟩:ByteArray),(⟨#[115]⟩:ByteArray)]:List ByteArray)) (([3600,60,1]:List Int)) 1000000).bind fun bt190=>(some (bt190.1,bt190.2))
theorem spec_SpanOf.mono:∀ a0 k,LeO (spec_SpanOf.f k a0) (spec_SpanOf.f (k+1) a0):=by
 intro a0 k
 unfold spec_SpanOf.f
 repeat' first
   |(with_reducible exact spec_l2Times.mono _ _ _ _ _)
   |(with_reducible exact LeO.refl _)
   |(with_reducible exact LeO.none _)
   |(with_reducible refine LeO.ite ?_ ?_)
   |(with_reducible refine LeO.bind ?_ (fun _=>?_))
   |exact spec_l2Times.mono _ _ _ _ _
   |exact LeO.none _
   |refine LeO.ite ?_ ?_
   |refine LeO.bind ?_ (fun _=>?_)
set_option maxHeartbeats 8000000 in
set_option maxRecDepth 100000 in
theorem spec_SpanOf.calls (k:Nat) (a0:ByteArray) (r1:Int) (r2:Bool) (w:World) (h:spec_SpanOf.f k a0=some (r1,r2)) :
  Calls Try.prog 48 #[.string a0] w fun e w'=>e=.returned (.tuple #[.int .i64 r1,.bool r2])∧Below w.heap.size w w':=by
 have HB:=Aside0.mk (Below.refl w.heap.size w)
 have H:((spec_l2Times.f k a0 (([(⟨#[104]⟩:ByteArray),(⟨#[109]⟩:ByteArray),(⟨#[115]⟩:ByteArray)]:List ByteArray)) (([3600,60,1]:List Int)) 1000000).bind fun bt190=>(some (bt190.1,bt190.2)))=some (r1,r2):=h
 clear h
 obtain ⟨y184,hy184⟩:∃ y_:List ByteArray,y_=(([(⟨#[104]⟩:ByteArray),(⟨#[109]⟩:ByteArray),(⟨#[115]⟩:ByteArray)]:List ByteArray)):=⟨_,rfl⟩
 replace H:((spec_l2Times.f k a0 y184 (([3600,60,1]:List Int)) 1000000).bind fun bt190=>(some (bt190.1,bt190.2)))=some (r1,r2):=by first|(rw [hy184]; with_reducible exact H)|(have H2_:=(Option.bind_some _ _).symm.trans H; rw [hy184]; with_reducible exact H2_)|(have H2_:=(Option.bind_some _ _).symm.trans H; with_reducible exact H2_)|with_reducible exact H|(rw [hy184]; exact H)|exact H
 have Ny184:=Aside0.mk hy184
 clear hy184
 obtain ⟨y187,hy187⟩:∃ y_:List Int,y_=(([3600,60,1]:List Int)):=⟨_,rfl⟩
 replace H:((spec_l2Times.f k a0 y184 y187 1000000).bind fun bt190=>(some (bt190.1,bt190.2)))=some (r1,r2):=by first|(rw [hy187]; with_reducible exact H)|(have H2_:=(Option.bind_some _ _).symm.trans H; rw [hy187]; with_reducible exact H2_)|(have H2_:=(Option.bind_some _ _).symm.trans H; with_reducible exact H2_)|with_reducible exact H|(rw [hy187]; exact H)|exact H
 have Ny187:=Aside0.mk hy187
 clear hy187
 replace H:=Option.bind_eq_some_iff.mp H
 obtain ⟨⟨t190,t191⟩,A20,H⟩:=H
 replace H:(some (t190,t191))=some (r1,r2):=H
 have A2:=Aside0.mk A20
 clear A20
 simp only [Option.some.injEq,Prod.mk.injEq] at H
 obtain ⟨rfl,rfl⟩:=H
 go_enter Try.func48,Try.ntmps48
 go_wp2_with (first|((with_reducible refine gate_dst (N:=8) rfl ?_); refine Kd.R_lit Kd.string _ 9 ?hg (N:=8) ?hd (xs:=([(⟨#[104]⟩:ByteArray),(⟨#[109]⟩:ByteArray),(⟨#[115]⟩:ByteArray)]:List ByteArray)) (inner:=[.string (⟨#[104]⟩:ByteArray),.string (⟨#[109]⟩:ByteArray),.string (⟨#[115]⟩:ByteArray)]) (ok:=fun _=>True) (okp:=fun _=>True) ?hr ?hp (fun _ hk=>hk) trivial (Below.refl _ _) (Nat.le_refl _) (by simp) ?_; (case hd=>rfl); (case hg=>rfl); (case hr=>first|(go_simp; done)|(go_simp; rfl)); (case hp=>exact (Reps.one (show Kd.M Kd.string _ _ _ (⟨#[104]⟩:ByteArray) [.string (⟨#[104]⟩:ByteArray)] from rfl) (Reps.one (show Kd.M Kd.string _ _ _ (⟨#[109]⟩:ByteArray) [.string (⟨#[109]⟩:ByteArray)] from rfl) (Reps.one (show Kd.M Kd.string _ _ _ (⟨#[115]⟩:ByteArray) [.string (⟨#[115]⟩:ByteArray)] from rfl) (Reps.none _ _))))); intro v185 w3 ho4 hb hg_ hnew_; clear hg_ hnew_; (first|rw [← Ny184.out] at ho4|(simp only [Int.reduceToNat] at ho4; rw [← Ny184.out] at ho4)); have n0_:=Aside0.mk (Kd.R_lower ho4 (below_size (by repeat (first|(with_reducible first|exact HB.out|apply below_alloc|apply pw_below_drewN|apply below_drew1)|exact HB.out)))); have n1_:=Aside0.mk (below_step (by repeat (first|(with_reducible first|exact HB.out|apply below_alloc|apply pw_below_drewN|apply below_drew1)|exact HB.out)) hb); clear HB; have HO186:=n0_; have HB:=n1_; clear n0_ n1_; clear hb ho4)|((with_reducible refine gate_dst (N:=9) rfl ?_); refine Kd.R_lit (Kd.int .i64) _ 3 ?hg (N:=9) ?hd (xs:=([3600,60,1]:List Int)) (inner:=[.int .i64 3600,.int .i64 60,.int .i64 1]) (ok:=fun _=>True) (okp:=fun _=>True) ?hr ?hp (fun _ hk=>hk) trivial (Below.refl _ _) (Nat.le_refl _) (by simp) ?_; (case hd=>rfl); (case hg=>rfl); (case hr=>first|(go_simp; done)|(go_simp; rfl)); (case hp=>exact (Reps.one (show Kd.M (Kd.int .i64) _ _ _ 3600 [.int .i64 3600] from rfl) (Reps.one (show Kd.M (Kd.int .i64) _ _ _ 60 [.int .i64 60] from rfl) (Reps.one (show Kd.M (Kd.int .i64) _ _ _ 1 [.int .i64 1] from rfl) (Reps.none _ _))))); intro v188 w5 ho6 hb hg_ hnew_; clear hg_ hnew_; (first|rw [← Ny187.out] at ho6|(simp only [Int.reduceToNat] at ho6; rw [← Ny187.out] at ho6)); have n0_:=Aside0.mk (Kd.R_below (by (with_reducible repeat (first|apply Kd.R_alloc|apply Kd.R_drewN|apply Kd.R_drew)); exact HO186.out) hb); have n1_:=Aside0.mk (Kd.R_lower ho6 (below_size (by repeat (first|(with_reducible first|exact HB.out|apply below_alloc|apply pw_below_drewN|apply below_drew1)|exact HB.out)))); have n2_:=Aside0.mk (below_step (by repeat (first|(with_reducible first|exact HB.out|apply below_alloc|apply pw_below_drewN|apply below_drew1)|exact HB.out)) hb); clear HO186; clear HB; have HO186:=n0_; have HO189:=n1_; have HB:=n2_; clear n0_ n1_ n2_; clear hb ho6; obtain ⟨Ao7,co7,eo7⟩:=Kd.R_slice HO186.out; subst eo7; obtain ⟨Ao8,co8,eo8⟩:=Kd.R_slice HO189.out; subst eo8)|((with_reducible refine gate_callee (f:=66) rfl ?_); refine goesL_ (some 10) rfl rfl Try.func66 (by kernel_rfl) rfl #[.string a0,.slice Ao7 y184.length co7,.slice Ao8 y187.length co8,.int .i64 1000000] rfl (by (try simp only [List.map_toArray,List.map_cons,List.map_nil]); first|done|rfl|(simp only [List.length_drop,List.length_take]; rfl)) ?_; (with_reducible refine (spec_l2Times.calls k a0 _ _ y184 _ _ y187 1000000 t190 t191 _ ?side1 ?side2 ?side3 ?side4 A2.out).mono ?_); (case side1=>repeat (first|exact (Kd.R_reads' HO186.out).2.2|(with_reducible refine Kd.C_alloc ?_ _)|(with_reducible refine Kd.C_drewN ?_ _)|(with_reducible refine Kd.C_drew ?_))); (case side2=>exact (Kd.R_reads' HO186.out).2.1); (case side3=>repeat (first|exact (Kd.R_reads' HO189.out).2.2|(with_reducible refine Kd.C_alloc ?_ _)|(with_reducible refine Kd.C_drewN ?_ _)|(with_reducible refine Kd.C_drew ?_))); (case side4=>exact (Kd.R_reads' HO189.out).2.1); rintro e w9 ⟨rfl,hb⟩; refine ⟨_,rfl,?_⟩; have n0_:=Aside0.mk (Kd.R_below (by (with_reducible repeat (first|apply Kd.R_alloc|apply Kd.R_drewN|apply Kd.R_drew)); exact HO186.out) hb); have n1_:=Aside0.mk (Kd.R_below (by (with_reducible repeat (first|apply Kd.R_alloc|apply Kd.R_drewN|apply Kd.R_drew)); exact HO189.out) hb); have n2_:=Aside0.mk (below_step (by repeat (first|(with_reducible first|exact HB.out|apply below_alloc|apply pw_below_drewN|apply below_drew1)|exact HB.out)) hb); clear HO186; clear HO189; clear HB; have HO186:=n0_; have HO189:=n1_; have HB:=n2_; clear n0_ n1_ n2_; (try clear hb); (try clear hb2); (try clear hk); (try clear hi)))
 go_ret2
 exact ⟨by first|rfl|(simp [errW_none,errW_some]<;>rfl)|(simp [*,errW_none,errW_some]<;>rfl),by repeat (first|(with_reducible first|exact HB.out|apply below_alloc|apply pw_below_drewN|apply below_drew1)|exact HB.out)⟩
def spec_l7Span.f (k:Nat) (a0_0:Int) (a0_1:Int) (a0_2:ByteArray) (l0_3:List ByteArray) (l0_4:List (S33)) (a1:ByteArray) (a2:Int):Option (Int × Bool):=(spec_Get.f k a0_0 a0_1 a0_2 l0_3 l0_4 a1).bind fun bt193=>(if bt193.2.2.2.2.2=true then ((spec_SpanOf.f k bt193.2.2.1).bind fun bt204=>(if bt204.2=true then (if bt193.1=3 then (some (bt204.1,decide (bt204.1≤3600))) else (some (bt204.1,false))) else (some (bt204.1,false)))) else (some (a2,true)))
theorem spec_l7Span.mono:∀ a0 a1 a2 a3 a4 a5 a6 k,LeO (spec_l7Span.f k a0 a1 a2 a3 a4 a5 a6) (spec_l7Span.f (k+1) a0 a1 a2 a3 a4 a5 a6):=by
 intro a0 a1 a2 a3 a4 a5 a6 k
 unfold spec_l7Span.f
 repeat' first
   |(with_reducible exact spec_Get.mono _ _ _ _ _ _ _)
   |(with_reducible exact spec_SpanOf.mono _ _)
   |(with_reducible exact LeO.refl _)
   |(with_reducible exact LeO.none _)
   |(with_reducible refine LeO.ite ?_ ?_)
   |(with_reducible refine LeO.bind ?_ (fun _=>?_))
   |exact spec_Get.mono _ _ _ _ _ _ _
   |exact spec_SpanOf.mono _ _
   |exact LeO.none _
   |refine LeO.ite ?_ ?_
   |refine LeO.bind ?_ (fun _=>?_)
set_option maxHeartbeats 8000000 in
set_option maxRecDepth 100000 in
theorem spec_l7Span.calls (k:Nat) (a0_0:Int) (a0_1:Int) (a0_2:ByteArray) (A0_3:Option Addr) (c0_3:Nat) (l0_3:List ByteArray) (A0_4:Option Addr) (c0_4:Nat) (l0_4:List (S33)) (a1:ByteArray) (a2:Int) (r1:Int) (r2:Bool) (w:World) (hr0_3:Kd.C Kd.string w A0_3 l0_3.length l0_3) (hc0_3:l0_3.length≤c0_3) (hr0_4:Kd.C k33 w A0_4 l0_4.length l0_4) (hc0_4:l0_4.length≤c0_4) (h:spec_l7Span.f k a0_0 a0_1 a0_2 l0_3 l0_4 a1 a2=some (r1,r2)) :
  Calls Try.prog 22 #[.agg #[.int .i64 a0_0,.int .i64 a0_1,.string a0_2,.slice A0_3 l0_3.length c0_3,.slice A0_4 l0_4.length c0_4],.string a1,.int .i64 a2] w fun e w'=>e=.returned (.tuple #[.int .i64 r1,.bool r2])∧Below w.heap.size w w':=by
 have hu33:=Try.underlying33
 have HR0_3:=Aside0.mk hr0_3
 have HC0_3:=Aside0.mk hc0_3
 clear hr0_3 hc0_3
 have HR0_4:=Aside0.mk hr0_4
 have HC0_4:=Aside0.mk hc0_4
 clear hr0_4 hc0_4
 have HB:=Aside0.mk (Below.refl w.heap.size w)
 have H:((spec_Get.f k a0_0 a0_1 a0_2 l0_3 l0_4 a1).bind fun bt193=>(if bt193.2.2.2.2.2=true then ((spec_SpanOf.f k bt193.2.2.1).bind fun bt204=>(if bt204.2=true then (if bt193.1=3 then (some (bt204.1,decide (bt204.1≤3600))) else (some (bt204.1,false))) else (some (bt204.1,false)))) else (some (a2,true))))=some (r1,r2):=h
 clear h
 replace H:=Option.bind_eq_some_iff.mp H
 obtain ⟨⟨t193,t194,t195,t196,t199,t202⟩,A40,H⟩:=H
 replace H:(if t202=true then ((spec_SpanOf.f k t195).bind fun bt204=>(if bt204.2=true then (if t193=3 then (some (bt204.1,decide (bt204.1≤3600))) else (some (bt204.1,false))) else (some (bt204.1,false)))) else (some (a2,true)))=some (r1,r2):=H
 have A4:=Aside0.mk A40
 clear A40
 have HC5:=Aside0.mk H
 clear H
 go_enter Try.func22,Try.ntmps22
 go_upto_if 19 with (first|((with_reducible refine gate_dst (N:=3) rfl ?_); refine box_event ?hg (N:=3) ?hd (cs:=#[.int .i64 a0_0,.int .i64 a0_1,.string a0_2,.slice A0_3 l0_3.length c0_3,.slice A0_4 l0_4.length c0_4]) (t:=33) ?hr ?_; (case hd=>rfl); (case hg=>rfl); (case hr=>first|(go_simp; done)|(go_simp; rfl)); intro gb192 hg w6 hbox hb; have n0_:=Aside0.mk (below_step (by repeat (first|(with_reducible first|exact HB.out|apply below_alloc|apply pw_below_drewN|apply below_drew1)|exact HB.out)) hb); have n1_:=Aside0.mk (hbox); have n2_:=Aside0.mk ((by rw [hg]; exact (below_size (by repeat (first|(with_reducible first|exact HB.out|apply below_alloc|apply pw_below_drewN|apply below_drew1)|exact HB.out))):w.heap.size≤gb192)); have n3_:=Aside0.mk ((by rw [hg]; exact (below_size (by repeat (first|(with_reducible first|exact HB.out|apply below_alloc|apply pw_below_drewN|apply below_drew1)|exact HB.out))):w.heap.size≤gb192)); clear HB; have HB:=n0_; have BK192:=n1_; have GW192:=n2_; have GE192:=n3_; clear n0_ n1_ n2_ n3_; clear hb hbox hg; have hcz7_0:w6.cell? ⟨gb192,0,none⟩=some (.int .i64 a0_0):=(blk_cell BK192.out 0).trans rfl; have hcz7_1:w6.cell? ⟨gb192,1,none⟩=some (.int .i64 a0_1):=(blk_cell BK192.out 1).trans rfl; have hcz7_2:w6.cell? ⟨gb192,2,none⟩=some (.string a0_2):=(blk_cell BK192.out 2).trans rfl; have hcz7_3:w6.cell? ⟨gb192,3,none⟩=some (.slice A0_3 l0_3.length c0_3):=(blk_cell BK192.out 3).trans rfl; have hcz7_4:w6.cell? ⟨gb192,4,none⟩=some (.slice A0_4 l0_4.length c0_4):=(blk_cell BK192.out 4).trans rfl; have hfz7_0:=blk_frozen BK192.out 0; have hfz7_1:=blk_frozen BK192.out 1; have hfz7_2:=blk_frozen BK192.out 2; have hfz7_3:=blk_frozen BK192.out 3; have hfz7_4:=blk_frozen BK192.out 4)|((with_reducible refine gate_callee (f:=46) rfl ?_); refine goesL_ (some 15) rfl rfl Try.func46 (by kernel_rfl) rfl #[.agg #[.int .i64 a0_0,.int .i64 a0_1,.string a0_2,.slice A0_3 l0_3.length c0_3,.slice A0_4 l0_4.length c0_4],.string a1] rfl (by (try simp only [List.map_toArray,List.map_cons,List.map_nil]); first|done|rfl|(simp only [List.length_drop,List.length_take]; rfl)) ?_; (with_reducible refine (spec_Get.calls k a0_0 a0_1 a0_2 _ _ l0_3 _ _ l0_4 a1 t193 t194 t195 t196 t199 t202 _ ?side1 ?side2 ?side3 ?side4 A4.out).mono ?_); (case side1=>repeat (first|exact (Kd.C_below HR0_3.out HB.out)|(with_reducible refine Kd.C_alloc ?_ _)|(with_reducible refine Kd.C_drewN ?_ _)|(with_reducible refine Kd.C_drew ?_))); (case side2=>exact HC0_3.out); (case side3=>repeat (first|exact (Kd.C_below HR0_4.out HB.out)|(with_reducible refine Kd.C_alloc ?_ _)|(with_reducible refine Kd.C_drewN ?_ _)|(with_reducible refine Kd.C_drew ?_))); (case side4=>exact HC0_4.out); rintro e w8 ⟨v197,v200,rfl,ho0,ho1,hb⟩; refine ⟨_,rfl,?_⟩; have n0_:=Aside0.mk (Kd.R_lower ho0 (below_size (by repeat (first|(with_reducible first|exact HB.out|apply below_alloc|apply pw_below_drewN|apply below_drew1|refine below_set ?_ GE192.out)|exact HB.out)))); have n1_:=Aside0.mk (Kd.R_lower (Kd.R_newB ho1 (g:=gb192) (o:=.cells #[.int .i64 a0_0,.int .i64 a0_1,.string a0_2,.slice A0_3 l0_3.length c0_3,.slice A0_4 l0_4.length c0_4] 33 (0,0)) (by (with_reducible repeat (first|refine blk_drewN ?_ _|refine blk_drew ?_|refine blk_alloc ?_ _)); exact BK192.out)) (below_size (by repeat (first|(with_reducible first|exact HB.out|apply below_alloc|apply pw_below_drewN|apply below_drew1|refine below_set ?_ GE192.out)|exact HB.out)))); have n2_:=Aside0.mk (blk_below (g:=gb192) (o:=.cells #[.int .i64 a0_0,.int .i64 a0_1,.string a0_2,.slice A0_3 l0_3.length c0_3,.slice A0_4 l0_4.length c0_4] 33 (0,0)) (by (with_reducible repeat (first|refine blk_drewN ?_ _|refine blk_drew ?_|refine blk_alloc ?_ _)); exact BK192.out) hb); have n3_:=Aside0.mk (below_step (by repeat (first|(with_reducible first|exact HB.out|apply below_alloc|apply pw_below_drewN|apply below_drew1|refine below_set ?_ GE192.out)|exact HB.out)) hb); clear BK192; clear HB; have HO198:=n0_; have HO201:=n1_; have BK192:=n2_; have HB:=n3_; clear n0_ n1_ n2_ n3_; (try clear hb); (try clear hb2); (try clear hk); (try clear hi); (try clear ho0); (try clear ho1))|((with_reducible refine gate_dst (N:=8) rfl ?_); refine box_event ?hg (N:=8) ?hd (cs:=#[.int .i64 0,.int .i64 0,.string (⟨#[]⟩:ByteArray),.slice none 0 0,.slice none 0 0]) (t:=33) ?hr ?_; (case hd=>rfl); (case hg=>rfl); (case hr=>first|(go_simp; done)|(go_simp; rfl)); intro gb203 hg w9 hbox hb; have n0_:=Aside0.mk (Kd.R_below (by (with_reducible repeat (first|apply Kd.R_alloc|apply Kd.R_drewN|apply Kd.R_drew)); exact HO198.out) hb); have n1_:=Aside0.mk (Kd.R_below (Kd.R_elderB (by (with_reducible repeat (first|apply Kd.R_alloc|apply Kd.R_drewN|apply Kd.R_drew)); exact HO201.out) gb203 (Nat.le_of_eq hg.symm)) hb); have n2_:=Aside0.mk (blk_below (g:=gb192) (o:=.cells #[.int .i64 a0_0,.int .i64 a0_1,.string a0_2,.slice A0_3 l0_3.length c0_3,.slice A0_4 l0_4.length c0_4] 33 (0,0)) (by (with_reducible repeat (first|refine blk_drewN ?_ _|refine blk_drew ?_|refine blk_alloc ?_ _)); exact BK192.out) hb); have n3_:=Aside0.mk (below_step (by repeat (first|(with_reducible first|exact HB.out|apply below_alloc|apply pw_below_drewN|apply below_drew1|refine below_set ?_ GE192.out)|exact HB.out)) hb); have n4_:=Aside0.mk (hbox); have n5_:=Aside0.mk ((by rw [hg]; exact (below_size (by repeat (first|(with_reducible first|exact HB.out|apply below_alloc|apply pw_below_drewN|apply below_drew1|refine below_set ?_ GE192.out)|exact HB.out))):w.heap.size≤gb203)); have n6_:=Aside0.mk ((by rw [hg]; exact (below_size (by repeat (first|(with_reducible first|exact HB.out|apply below_alloc|apply pw_below_drewN|apply below_drew1|refine below_set ?_ GE192.out)|exact HB.out))):w.heap.size≤gb203)); have n7_:=Aside0.mk ((by rw [hg]; exact Nat.ne_of_lt (blk_lt (g:=gb192) (o:=.cells #[.int .i64 a0_0,.int .i64 a0_1,.string a0_2,.slice A0_3 l0_3.length c0_3,.slice A0_4 l0_4.length c0_4] 33 (0,0)) (by (with_reducible repeat (first|refine blk_drewN ?_ _|refine blk_drew ?_|refine blk_alloc ?_ _)); exact BK192.out)):gb192 ≠ gb203)); have n8_:=Aside0.mk ((by rw [hg]; exact Nat.ne_of_gt (blk_lt (g:=gb192) (o:=.cells #[.int .i64 a0_0,.int .i64 a0_1,.string a0_2,.slice A0_3 l0_3.length c0_3,.slice A0_4 l0_4.length c0_4] 33 (0,0)) (by (with_reducible repeat (first|refine blk_drewN ?_ _|refine blk_drew ?_|refine blk_alloc ?_ _)); exact BK192.out)):gb203 ≠ gb192)); clear HO198; clear HO201; clear BK192; clear HB; have HO198:=n0_; have HO201:=n1_; have BK192:=n2_; have HB:=n3_; have BK203:=n4_; have GW203:=n5_; have GE203:=n6_; have NB192_203:=n7_; have NB203_192:=n8_; clear n0_ n1_ n2_ n3_ n4_ n5_ n6_ n7_ n8_; clear hb hbox hg; have hnb10:=NB203_192.out; have hnc10:=NB192_203.out; have hcz11_0:w9.cell? ⟨gb203,0,none⟩=some (.int .i64 0):=(blk_cell BK203.out 0).trans rfl; have hcz11_1:w9.cell? ⟨gb203,1,none⟩=some (.int .i64 0):=(blk_cell BK203.out 1).trans rfl; have hcz11_2:w9.cell? ⟨gb203,2,none⟩=some (.string (⟨#[]⟩:ByteArray)):=(blk_cell BK203.out 2).trans rfl; have hcz11_3:w9.cell? ⟨gb203,3,none⟩=some (.slice none 0 0):=(blk_cell BK203.out 3).trans rfl; have hcz11_4:w9.cell? ⟨gb203,4,none⟩=some (.slice none 0 0):=(blk_cell BK203.out 4).trans rfl; have hfz11_0:=blk_frozen BK203.out 0; have hfz11_1:=blk_frozen BK203.out 1; have hfz11_2:=blk_frozen BK203.out 2; have hfz11_3:=blk_frozen BK203.out 3; have hfz11_4:=blk_frozen BK203.out 4; obtain ⟨Ao12,co12,eo12⟩:=Kd.R_slice HO198.out; subst eo12; obtain ⟨Ao13,co13,eo13⟩:=Kd.R_slice HO201.out; subst eo13))
 (try simp only [Act.put,List.setIfInBounds_toArray,List.set_cons_zero,List.set_cons_succ])
 have H:=HC5.out
 clear HC5
 by_cases c14:t202=true
 ·subst c14
  have H1:((spec_SpanOf.f k t195).bind fun bt204=>(if bt204.2=true then (if t193=3 then (some (bt204.1,decide (bt204.1≤3600))) else (some (bt204.1,false))) else (some (bt204.1,false))))=some (r1,r2):=by rw [if_pos rfl] at H; exact H
  clear H
  have H:=H1
  clear H1
  replace H:=Option.bind_eq_some_iff.mp H
  obtain ⟨⟨t204,t205⟩,A150,H⟩:=H
  replace H:(if t205=true then (if t193=3 then (some (t204,decide (t204≤3600))) else (some (t204,false))) else (some (t204,false)))=some (r1,r2):=H
  have A15:=Aside0.mk A150
  clear A150
  by_cases c16:t205=true
  ·subst c16
   have H1:(if t193=3 then (some (t204,decide (t204≤3600))) else (some (t204,false)))=some (r1,r2):=by rw [if_pos rfl] at H; exact H
   clear H
   have H:=H1
   clear H1
   by_cases c17:t193=3
   ·rw [if_pos c17] at H
    have c17b0:(t193 == 3)=true:=beq_iff_eq.mpr c17
    have c17b1:(t193 != 3)=false:=bne_eq_false_iff_eq.mpr c17
    clear c17
    (first|rw [c17b0]|rw [c17b1]|(simp only [i64_w,i32_w]; rw [c17b0])|skip)
    simp only [Option.some.injEq,Prod.mk.injEq] at H
    obtain ⟨rfl,rfl⟩:=H
    have hnb18:=NB203_192.out
    have hnc18:=NB192_203.out
    have hcz19_0:w9.cell? ⟨gb203,0,none⟩=some (.int .i64 0):=(blk_cell BK203.out 0).trans rfl
    have hcz19_1:w9.cell? ⟨gb203,1,none⟩=some (.int .i64 0):=(blk_cell BK203.out 1).trans rfl
    have hcz19_2:w9.cell? ⟨gb203,2,none⟩=some (.string (⟨#[]⟩:ByteArray)):=(blk_cell BK203.out 2).trans rfl
    have hcz19_3:w9.cell? ⟨gb203,3,none⟩=some (.slice none 0 0):=(blk_cell BK203.out 3).trans rfl
    have hcz19_4:w9.cell? ⟨gb203,4,none⟩=some (.slice none 0 0):=(blk_cell BK203.out 4).trans rfl
    have hfz19_0:=blk_frozen BK203.out 0
    have hfz19_1:=blk_frozen BK203.out 1
    have hfz19_2:=blk_frozen BK203.out 2
    have hfz19_3:=blk_frozen BK203.out 3
    have hfz19_4:=blk_frozen BK203.out 4
    go_wp2_with (first|((with_reducible refine gate_callee (f:=48) rfl ?_); refine goesL_ (some 24) rfl rfl Try.func48 (by kernel_rfl) rfl #[.string t195] rfl (by (try simp only [List.map_toArray,List.map_cons,List.map_nil]); first|done|rfl|(simp only [List.length_drop,List.length_take]; rfl)) ?_; (with_reducible refine (spec_SpanOf.calls k t195 t204 true _ A15.out).mono ?_); rintro e w20 ⟨rfl,hb⟩; refine ⟨_,rfl,?_⟩; have n0_:=Aside0.mk (Kd.R_below (by (with_reducible repeat (first|apply Kd.R_alloc|apply Kd.R_drewN|apply Kd.R_drew)); exact (Kd.R_mono (Kd.R_far (p:=⟨gb203,4,none⟩) (Kd.R_far (p:=⟨gb203,3,none⟩) (Kd.R_far (p:=⟨gb203,2,none⟩) (Kd.R_far (p:=⟨gb203,1,none⟩) (Kd.R_far (p:=⟨gb203,0,none⟩) (Kd.R_types HO198.out BK203.out (by decide)) (fun _ hk=>hk.2) (.int .i64 t193)) (fun _ hk=>hk.2) (.int .i64 t194)) (fun _ hk=>hk.2) (.string t195)) (fun _ hk=>hk.2) (.slice Ao12 t196.length co12)) (fun _ hk=>hk.2) (.slice Ao13 t199.length co13)) (fun _ h_=>h_.1))) hb); have n1_:=Aside0.mk (Kd.R_below (by (with_reducible repeat (first|apply Kd.R_alloc|apply Kd.R_drewN|apply Kd.R_drew)); exact (Kd.R_mono (Kd.R_far (p:=⟨gb203,4,none⟩) (Kd.R_far (p:=⟨gb203,3,none⟩) (Kd.R_far (p:=⟨gb203,2,none⟩) (Kd.R_far (p:=⟨gb203,1,none⟩) (Kd.R_far (p:=⟨gb203,0,none⟩) (Kd.R_mono HO201.out (fun k_ hk=>(⟨hk,hk.2⟩:_∧k_ ≠ gb203))) (fun _ hk=>hk.2) (.int .i64 t193)) (fun _ hk=>hk.2) (.int .i64 t194)) (fun _ hk=>hk.2) (.string t195)) (fun _ hk=>hk.2) (.slice Ao12 t196.length co12)) (fun _ hk=>hk.2) (.slice Ao13 t199.length co13)) (fun _ h_=>h_.1))) hb); have n2_:=Aside0.mk (blk_below (g:=gb192) (o:=.cells #[.int .i64 a0_0,.int .i64 a0_1,.string a0_2,.slice A0_3 l0_3.length c0_3,.slice A0_4 l0_4.length c0_4] 33 (0,0)) (by (with_reducible repeat (first|refine blk_drewN ?_ _|refine blk_drew ?_|refine blk_alloc ?_ _)); refine blk_far ?_ NB192_203.out _; (with_reducible repeat (first|refine blk_drewN ?_ _|refine blk_drew ?_|refine blk_alloc ?_ _)); refine blk_far ?_ NB192_203.out _; (with_reducible repeat (first|refine blk_drewN ?_ _|refine blk_drew ?_|refine blk_alloc ?_ _)); refine blk_far ?_ NB192_203.out _; (with_reducible repeat (first|refine blk_drewN ?_ _|refine blk_drew ?_|refine blk_alloc ?_ _)); refine blk_far ?_ NB192_203.out _; (with_reducible repeat (first|refine blk_drewN ?_ _|refine blk_drew ?_|refine blk_alloc ?_ _)); refine blk_far ?_ NB192_203.out _; (with_reducible repeat (first|refine blk_drewN ?_ _|refine blk_drew ?_|refine blk_alloc ?_ _)); exact BK192.out) hb); have n3_:=Aside0.mk (blk_below (g:=gb203) (o:=.cells #[.int .i64 t193,.int .i64 t194,.string t195,.slice Ao12 t196.length co12,.slice Ao13 t199.length co13] 33 (0,0)) (by (with_reducible repeat (first|refine blk_drewN ?_ _|refine blk_drew ?_|refine blk_alloc ?_ _)); refine blk_put (cs:=#[.int .i64 t193,.int .i64 t194,.string t195,.slice Ao12 t196.length co12,.slice none 0 0]) ?_ 4 _ rfl; (with_reducible repeat (first|refine blk_drewN ?_ _|refine blk_drew ?_|refine blk_alloc ?_ _)); refine blk_put (cs:=#[.int .i64 t193,.int .i64 t194,.string t195,.slice none 0 0,.slice none 0 0]) ?_ 3 _ rfl; (with_reducible repeat (first|refine blk_drewN ?_ _|refine blk_drew ?_|refine blk_alloc ?_ _)); refine blk_put (cs:=#[.int .i64 t193,.int .i64 t194,.string (⟨#[]⟩:ByteArray),.slice none 0 0,.slice none 0 0]) ?_ 2 _ rfl; (with_reducible repeat (first|refine blk_drewN ?_ _|refine blk_drew ?_|refine blk_alloc ?_ _)); refine blk_put (cs:=#[.int .i64 t193,.int .i64 0,.string (⟨#[]⟩:ByteArray),.slice none 0 0,.slice none 0 0]) ?_ 1 _ rfl; (with_reducible repeat (first|refine blk_drewN ?_ _|refine blk_drew ?_|refine blk_alloc ?_ _)); refine blk_put (cs:=#[.int .i64 0,.int .i64 0,.string (⟨#[]⟩:ByteArray),.slice none 0 0,.slice none 0 0]) ?_ 0 _ rfl; (with_reducible repeat (first|refine blk_drewN ?_ _|refine blk_drew ?_|refine blk_alloc ?_ _)); exact BK203.out) hb); have n4_:=Aside0.mk (below_step (by repeat (first|(with_reducible first|exact HB.out|apply below_alloc|apply pw_below_drewN|apply below_drew1|refine below_set ?_ GE192.out|refine below_set ?_ GE203.out)|exact HB.out)) hb); clear HO198; clear HO201; clear BK192; clear BK203; clear HB; have HO198:=n0_; have HO201:=n1_; have BK192:=n2_; have BK203:=n3_; have HB:=n4_; clear n0_ n1_ n2_ n3_ n4_; (try clear hb); (try clear hb2); (try clear hk); (try clear hi); have hcz21_0:w20.cell? ⟨gb203,0,none⟩=some (.int .i64 t193):=(blk_cell BK203.out 0).trans rfl; have hcz21_1:w20.cell? ⟨gb203,1,none⟩=some (.int .i64 t194):=(blk_cell BK203.out 1).trans rfl; have hcz21_2:w20.cell? ⟨gb203,2,none⟩=some (.string t195):=(blk_cell BK203.out 2).trans rfl; have hcz21_3:w20.cell? ⟨gb203,3,none⟩=some (.slice Ao12 t196.length co12):=(blk_cell BK203.out 3).trans rfl; have hcz21_4:w20.cell? ⟨gb203,4,none⟩=some (.slice Ao13 t199.length co13):=(blk_cell BK203.out 4).trans rfl; have hfz21_0:=blk_frozen BK203.out 0; have hfz21_1:=blk_frozen BK203.out 1; have hfz21_2:=blk_frozen BK203.out 2; have hfz21_3:=blk_frozen BK203.out 3; have hfz21_4:=blk_frozen BK203.out 4))
    go_ret2
    exact ⟨by first|rfl|(simp [errW_none,errW_some]<;>rfl)|(simp [*,errW_none,errW_some]<;>rfl),by repeat (first|(with_reducible first|exact HB.out|apply below_alloc|apply pw_below_drewN|apply below_drew1|refine below_set ?_ GE192.out|refine below_set ?_ GE203.out)|exact HB.out)⟩
   ·rw [if_neg c17] at H
    have c17b0:(t193 == 3)=false:=beq_eq_false_iff_ne.mpr c17
    have c17b1:(t193 != 3)=true:=bne_iff_ne.mpr c17
    (first|rw [c17b0]|rw [c17b1]|(simp only [i64_w,i32_w]; rw [c17b0])|skip)
    simp only [Option.some.injEq,Prod.mk.injEq] at H
    obtain ⟨rfl,rfl⟩:=H
    have hnb22:=NB203_192.out
    have hnc22:=NB192_203.out
    have hcz23_0:w9.cell? ⟨gb203,0,none⟩=some (.int .i64 0):=(blk_cell BK203.out 0).trans rfl
    have hcz23_1:w9.cell? ⟨gb203,1,none⟩=some (.int .i64 0):=(blk_cell BK203.out 1).trans rfl
    have hcz23_2:w9.cell? ⟨gb203,2,none⟩=some (.string (⟨#[]⟩:ByteArray)):=(blk_cell BK203.out 2).trans rfl
    have hcz23_3:w9.cell? ⟨gb203,3,none⟩=some (.slice none 0 0):=(blk_cell BK203.out 3).trans rfl
    have hcz23_4:w9.cell? ⟨gb203,4,none⟩=some (.slice none 0 0):=(blk_cell BK203.out 4).trans rfl
    have hfz23_0:=blk_frozen BK203.out 0
    have hfz23_1:=blk_frozen BK203.out 1
    have hfz23_2:=blk_frozen BK203.out 2
    have hfz23_3:=blk_frozen BK203.out 3
    have hfz23_4:=blk_frozen BK203.out 4
    go_wp2_with (first|((with_reducible refine gate_callee (f:=48) rfl ?_); refine goesL_ (some 24) rfl rfl Try.func48 (by kernel_rfl) rfl #[.string t195] rfl (by (try simp only [List.map_toArray,List.map_cons,List.map_nil]); first|done|rfl|(simp only [List.length_drop,List.length_take]; rfl)) ?_; (with_reducible refine (spec_SpanOf.calls k t195 t204 true _ A15.out).mono ?_); rintro e w24 ⟨rfl,hb⟩; refine ⟨_,rfl,?_⟩; have n0_:=Aside0.mk (Kd.R_below (by (with_reducible repeat (first|apply Kd.R_alloc|apply Kd.R_drewN|apply Kd.R_drew)); exact (Kd.R_mono (Kd.R_far (p:=⟨gb203,4,none⟩) (Kd.R_far (p:=⟨gb203,3,none⟩) (Kd.R_far (p:=⟨gb203,2,none⟩) (Kd.R_far (p:=⟨gb203,1,none⟩) (Kd.R_far (p:=⟨gb203,0,none⟩) (Kd.R_types HO198.out BK203.out (by decide)) (fun _ hk=>hk.2) (.int .i64 t193)) (fun _ hk=>hk.2) (.int .i64 t194)) (fun _ hk=>hk.2) (.string t195)) (fun _ hk=>hk.2) (.slice Ao12 t196.length co12)) (fun _ hk=>hk.2) (.slice Ao13 t199.length co13)) (fun _ h_=>h_.1))) hb); have n1_:=Aside0.mk (Kd.R_below (by (with_reducible repeat (first|apply Kd.R_alloc|apply Kd.R_drewN|apply Kd.R_drew)); exact (Kd.R_mono (Kd.R_far (p:=⟨gb203,4,none⟩) (Kd.R_far (p:=⟨gb203,3,none⟩) (Kd.R_far (p:=⟨gb203,2,none⟩) (Kd.R_far (p:=⟨gb203,1,none⟩) (Kd.R_far (p:=⟨gb203,0,none⟩) (Kd.R_mono HO201.out (fun k_ hk=>(⟨hk,hk.2⟩:_∧k_ ≠ gb203))) (fun _ hk=>hk.2) (.int .i64 t193)) (fun _ hk=>hk.2) (.int .i64 t194)) (fun _ hk=>hk.2) (.string t195)) (fun _ hk=>hk.2) (.slice Ao12 t196.length co12)) (fun _ hk=>hk.2) (.slice Ao13 t199.length co13)) (fun _ h_=>h_.1))) hb); have n2_:=Aside0.mk (blk_below (g:=gb192) (o:=.cells #[.int .i64 a0_0,.int .i64 a0_1,.string a0_2,.slice A0_3 l0_3.length c0_3,.slice A0_4 l0_4.length c0_4] 33 (0,0)) (by (with_reducible repeat (first|refine blk_drewN ?_ _|refine blk_drew ?_|refine blk_alloc ?_ _)); refine blk_far ?_ NB192_203.out _; (with_reducible repeat (first|refine blk_drewN ?_ _|refine blk_drew ?_|refine blk_alloc ?_ _)); refine blk_far ?_ NB192_203.out _; (with_reducible repeat (first|refine blk_drewN ?_ _|refine blk_drew ?_|refine blk_alloc ?_ _)); refine blk_far ?_ NB192_203.out _; (with_reducible repeat (first|refine blk_drewN ?_ _|refine blk_drew ?_|refine blk_alloc ?_ _)); refine blk_far ?_ NB192_203.out _; (with_reducible repeat (first|refine blk_drewN ?_ _|refine blk_drew ?_|refine blk_alloc ?_ _)); refine blk_far ?_ NB192_203.out _; (with_reducible repeat (first|refine blk_drewN ?_ _|refine blk_drew ?_|refine blk_alloc ?_ _)); exact BK192.out) hb); have n3_:=Aside0.mk (blk_below (g:=gb203) (o:=.cells #[.int .i64 t193,.int .i64 t194,.string t195,.slice Ao12 t196.length co12,.slice Ao13 t199.length co13] 33 (0,0)) (by (with_reducible repeat (first|refine blk_drewN ?_ _|refine blk_drew ?_|refine blk_alloc ?_ _)); refine blk_put (cs:=#[.int .i64 t193,.int .i64 t194,.string t195,.slice Ao12 t196.length co12,.slice none 0 0]) ?_ 4 _ rfl; (with_reducible repeat (first|refine blk_drewN ?_ _|refine blk_drew ?_|refine blk_alloc ?_ _)); refine blk_put (cs:=#[.int .i64 t193,.int .i64 t194,.string t195,.slice none 0 0,.slice none 0 0]) ?_ 3 _ rfl; (with_reducible repeat (first|refine blk_drewN ?_ _|refine blk_drew ?_|refine blk_alloc ?_ _)); refine blk_put (cs:=#[.int .i64 t193,.int .i64 t194,.string (⟨#[]⟩:ByteArray),.slice none 0 0,.slice none 0 0]) ?_ 2 _ rfl; (with_reducible repeat (first|refine blk_drewN ?_ _|refine blk_drew ?_|refine blk_alloc ?_ _)); refine blk_put (cs:=#[.int .i64 t193,.int .i64 0,.string (⟨#[]⟩:ByteArray),.slice none 0 0,.slice none 0 0]) ?_ 1 _ rfl; (with_reducible repeat (first|refine blk_drewN ?_ _|refine blk_drew ?_|refine blk_alloc ?_ _)); refine blk_put (cs:=#[.int .i64 0,.int .i64 0,.string (⟨#[]⟩:ByteArray),.slice none 0 0,.slice none 0 0]) ?_ 0 _ rfl; (with_reducible repeat (first|refine blk_drewN ?_ _|refine blk_drew ?_|refine blk_alloc ?_ _)); exact BK203.out) hb); have n4_:=Aside0.mk (below_step (by repeat (first|(with_reducible first|exact HB.out|apply below_alloc|apply pw_below_drewN|apply below_drew1|refine below_set ?_ GE192.out|refine below_set ?_ GE203.out)|exact HB.out)) hb); clear HO198; clear HO201; clear BK192; clear BK203; clear HB; have HO198:=n0_; have HO201:=n1_; have BK192:=n2_; have BK203:=n3_; have HB:=n4_; clear n0_ n1_ n2_ n3_ n4_; (try clear hb); (try clear hb2); (try clear hk); (try clear hi); have hcz25_0:w24.cell? ⟨gb203,0,none⟩=some (.int .i64 t193):=(blk_cell BK203.out 0).trans rfl; have hcz25_1:w24.cell? ⟨gb203,1,none⟩=some (.int .i64 t194):=(blk_cell BK203.out 1).trans rfl; have hcz25_2:w24.cell? ⟨gb203,2,none⟩=some (.string t195):=(blk_cell BK203.out 2).trans rfl; have hcz25_3:w24.cell? ⟨gb203,3,none⟩=some (.slice Ao12 t196.length co12):=(blk_cell BK203.out 3).trans rfl; have hcz25_4:w24.cell? ⟨gb203,4,none⟩=some (.slice Ao13 t199.length co13):=(blk_cell BK203.out 4).trans rfl; have hfz25_0:=blk_frozen BK203.out 0; have hfz25_1:=blk_frozen BK203.out 1; have hfz25_2:=blk_frozen BK203.out 2; have hfz25_3:=blk_frozen BK203.out 3; have hfz25_4:=blk_frozen BK203.out 4))
    go_ret2
    exact ⟨by first|rfl|(simp [errW_none,errW_some]<;>rfl)|(simp [*,errW_none,errW_some]<;>rfl),by repeat (first|(with_reducible first|exact HB.out|apply below_alloc|apply pw_below_drewN|apply below_drew1|refine below_set ?_ GE192.out|refine below_set ?_ GE203.out)|exact HB.out)⟩
  ·replace c16:=Bool.eq_false_iff.mpr c16
   subst c16
   have H1:(some (t204,false))=some (r1,r2):=by rw [if_neg (show ¬ (false=true) by decide)] at H; exact H
   clear H
   have H:=H1
   clear H1
   simp only [Option.some.injEq,Prod.mk.injEq] at H
   obtain ⟨rfl,rfl⟩:=H
   have hnb26:=NB203_192.out
   have hnc26:=NB192_203.out
   have hcz27_0:w9.cell? ⟨gb203,0,none⟩=some (.int .i64 0):=(blk_cell BK203.out 0).trans rfl
   have hcz27_1:w9.cell? ⟨gb203,1,none⟩=some (.int .i64 0):=(blk_cell BK203.out 1).trans rfl
   have hcz27_2:w9.cell? ⟨gb203,2,none⟩=some (.string (⟨#[]⟩:ByteArray)):=(blk_cell BK203.out 2).trans rfl
   have hcz27_3:w9.cell? ⟨gb203,3,none⟩=some (.slice none 0 0):=(blk_cell BK203.out 3).trans rfl
   have hcz27_4:w9.cell? ⟨gb203,4,none⟩=some (.slice none 0 0):=(blk_cell BK203.out 4).trans rfl
   have hfz27_0:=blk_frozen BK203.out 0
   have hfz27_1:=blk_frozen BK203.out 1
   have hfz27_2:=blk_frozen BK203.out 2
   have hfz27_3:=blk_frozen BK203.out 3
   have hfz27_4:=blk_frozen BK203.out 4
   go_wp2_with (first|((with_reducible refine gate_callee (f:=48) rfl ?_); refine goesL_ (some 24) rfl rfl Try.func48 (by kernel_rfl) rfl #[.string t195] rfl (by (try simp only [List.map_toArray,List.map_cons,List.map_nil]); first|done|rfl|(simp only [List.length_drop,List.length_take]; rfl)) ?_; (with_reducible refine (spec_SpanOf.calls k t195 t204 false _ A15.out).mono ?_); rintro e w28 ⟨rfl,hb⟩; refine ⟨_,rfl,?_⟩; have n0_:=Aside0.mk (Kd.R_below (by (with_reducible repeat (first|apply Kd.R_alloc|apply Kd.R_drewN|apply Kd.R_drew)); exact (Kd.R_mono (Kd.R_far (p:=⟨gb203,4,none⟩) (Kd.R_far (p:=⟨gb203,3,none⟩) (Kd.R_far (p:=⟨gb203,2,none⟩) (Kd.R_far (p:=⟨gb203,1,none⟩) (Kd.R_far (p:=⟨gb203,0,none⟩) (Kd.R_types HO198.out BK203.out (by decide)) (fun _ hk=>hk.2) (.int .i64 t193)) (fun _ hk=>hk.2) (.int .i64 t194)) (fun _ hk=>hk.2) (.string t195)) (fun _ hk=>hk.2) (.slice Ao12 t196.length co12)) (fun _ hk=>hk.2) (.slice Ao13 t199.length co13)) (fun _ h_=>h_.1))) hb); have n1_:=Aside0.mk (Kd.R_below (by (with_reducible repeat (first|apply Kd.R_alloc|apply Kd.R_drewN|apply Kd.R_drew)); exact (Kd.R_mono (Kd.R_far (p:=⟨gb203,4,none⟩) (Kd.R_far (p:=⟨gb203,3,none⟩) (Kd.R_far (p:=⟨gb203,2,none⟩) (Kd.R_far (p:=⟨gb203,1,none⟩) (Kd.R_far (p:=⟨gb203,0,none⟩) (Kd.R_mono HO201.out (fun k_ hk=>(⟨hk,hk.2⟩:_∧k_ ≠ gb203))) (fun _ hk=>hk.2) (.int .i64 t193)) (fun _ hk=>hk.2) (.int .i64 t194)) (fun _ hk=>hk.2) (.string t195)) (fun _ hk=>hk.2) (.slice Ao12 t196.length co12)) (fun _ hk=>hk.2) (.slice Ao13 t199.length co13)) (fun _ h_=>h_.1))) hb); have n2_:=Aside0.mk (blk_below (g:=gb192) (o:=.cells #[.int .i64 a0_0,.int .i64 a0_1,.string a0_2,.slice A0_3 l0_3.length c0_3,.slice A0_4 l0_4.length c0_4] 33 (0,0)) (by (with_reducible repeat (first|refine blk_drewN ?_ _|refine blk_drew ?_|refine blk_alloc ?_ _)); refine blk_far ?_ NB192_203.out _; (with_reducible repeat (first|refine blk_drewN ?_ _|refine blk_drew ?_|refine blk_alloc ?_ _)); refine blk_far ?_ NB192_203.out _; (with_reducible repeat (first|refine blk_drewN ?_ _|refine blk_drew ?_|refine blk_alloc ?_ _)); refine blk_far ?_ NB192_203.out _; (with_reducible repeat (first|refine blk_drewN ?_ _|refine blk_drew ?_|refine blk_alloc ?_ _)); refine blk_far ?_ NB192_203.out _; (with_reducible repeat (first|refine blk_drewN ?_ _|refine blk_drew ?_|refine blk_alloc ?_ _)); refine blk_far ?_ NB192_203.out _; (with_reducible repeat (first|refine blk_drewN ?_ _|refine blk_drew ?_|refine blk_alloc ?_ _)); exact BK192.out) hb); have n3_:=Aside0.mk (blk_below (g:=gb203) (o:=.cells #[.int .i64 t193,.int .i64 t194,.string t195,.slice Ao12 t196.length co12,.slice Ao13 t199.length co13] 33 (0,0)) (by (with_reducible repeat (first|refine blk_drewN ?_ _|refine blk_drew ?_|refine blk_alloc ?_ _)); refine blk_put (cs:=#[.int .i64 t193,.int .i64 t194,.string t195,.slice Ao12 t196.length co12,.slice none 0 0]) ?_ 4 _ rfl; (with_reducible repeat (first|refine blk_drewN ?_ _|refine blk_drew ?_|refine blk_alloc ?_ _)); refine blk_put (cs:=#[.int .i64 t193,.int .i64 t194,.string t195,.slice none 0 0,.slice none 0 0]) ?_ 3 _ rfl; (with_reducible repeat (first|refine blk_drewN ?_ _|refine blk_drew ?_|refine blk_alloc ?_ _)); refine blk_put (cs:=#[.int .i64 t193,.int .i64 t194,.string (⟨#[]⟩:ByteArray),.slice none 0 0,.slice none 0 0]) ?_ 2 _ rfl; (with_reducible repeat (first|refine blk_drewN ?_ _|refine blk_drew ?_|refine blk_alloc ?_ _)); refine blk_put (cs:=#[.int .i64 t193,.int .i64 0,.string (⟨#[]⟩:ByteArray),.slice none 0 0,.slice none 0 0]) ?_ 1 _ rfl; (with_reducible repeat (first|refine blk_drewN ?_ _|refine blk_drew ?_|refine blk_alloc ?_ _)); refine blk_put (cs:=#[.int .i64 0,.int .i64 0,.string (⟨#[]⟩:ByteArray),.slice none 0 0,.slice none 0 0]) ?_ 0 _ rfl; (with_reducible repeat (first|refine blk_drewN ?_ _|refine blk_drew ?_|refine blk_alloc ?_ _)); exact BK203.out) hb); have n4_:=Aside0.mk (below_step (by repeat (first|(with_reducible first|exact HB.out|apply below_alloc|apply pw_below_drewN|apply below_drew1|refine below_set ?_ GE192.out|refine below_set ?_ GE203.out)|exact HB.out)) hb); clear HO198; clear HO201; clear BK192; clear BK203; clear HB; have HO198:=n0_; have HO201:=n1_; have BK192:=n2_; have BK203:=n3_; have HB:=n4_; clear n0_ n1_ n2_ n3_ n4_; (try clear hb); (try clear hb2); (try clear hk); (try clear hi)))
   go_ret2
   exact ⟨by first|rfl|(simp [errW_none,errW_some]<;>rfl)|(simp [*,errW_none,errW_some]<;>rfl),by repeat (first|(with_reducible first|exact HB.out|apply below_alloc|apply pw_below_drewN|apply below_drew1|refine below_set ?_ GE192.out|refine below_set ?_ GE203.out)|exact HB.out)⟩
 ·replace c14:=Bool.eq_false_iff.mpr c14
  subst c14
  have H1:(some (a2,true))=some (r1,r2):=by rw [if_neg (show ¬ (false=true) by decide)] at H; exact H
  clear H
  have H:=H1
  clear H1
  simp only [Option.some.injEq,Prod.mk.injEq] at H
  obtain ⟨rfl,rfl⟩:=H
  go_wp2
  go_ret2
  exact ⟨by first|rfl|(simp [errW_none,errW_some]<;>rfl)|(simp [*,errW_none,errW_some]<;>rfl),by repeat (first|(with_reducible first|exact HB.out|apply below_alloc|apply pw_below_drewN|apply below_drew1|refine below_set ?_ GE192.out|refine below_set ?_ GE203.out)|exact HB.out)⟩
end
end Go.Proofs.Ytdlhidjphaaklaa.P
