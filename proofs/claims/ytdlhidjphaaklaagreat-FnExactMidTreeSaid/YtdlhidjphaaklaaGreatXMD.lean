/- Part 4 of the proof of the law FnExactMidTree: what it leans on, in build order. No condition. (Merged by wip/reap.py.) -/
import Derived.Test.YtdlhidjphaaklaaGreatXMC
import Derived.IntWalk
import Derived.Deep.RegionWith
set_option linter.unusedVariables false
set_option linter.unusedSimpArgs false
section
namespace Go.Proofs.YtdlhidjphaaklaaGreat.H
open Go.RowKit Go.Proofs.YtdlhidjphaaklaaGreat.P Go.Proofs.YtdlhidjphaaklaaGreatW.PrintWords Go.Proofs.YtdlhidjphaaklaaGreat.M
theorem own_two {w:World} {b b' e e' s s' n n':Nat} {v v':Value} {xs xs':List Value} (h:w.ownsRow b e s v n xs) (h':w.ownsRow b' e' s' v' n' xs') (hne:e ≠ e'):∀ k,v.ownBlock=some k→¬ v'.ownBlock=some k:=fun k hk hk'=>by
 rcases h.2 with ⟨rfl,_⟩|⟨g,cap,cur,rfl,_,hg,_⟩
 ·cases hk
 ·rcases h'.2 with ⟨rfl,_⟩|⟨g',cap',cur',rfl,_,hg',_⟩
  ·cases hk'
  ·have e1:g=k:=Option.some.inj hk
   have e2:g'=k:=Option.some.inj hk'
   rw [e1] at hg
   rw [e2,hg] at hg'
   injection hg' with hg'
   injection hg' with _ ht
   exact hne ht
theorem l3At_calls (x:S32) (key:ByteArray) (hl:x.f3.length≤1099511627776) {A3 A4:Option Addr} {c3 c4:Nat} {w:World} (g3:Kd.C Kd.string w A3 x.f3.length x.f3) (l3:x.f3.length≤c3) (g4:k32.C w A4 x.f4.length x.f4) (l4:x.f4.length≤c4) :
  Calls Tryz.prog 114 #[.agg #[.int .i64 x.f0,.int .i64 x.f1,.string x.f2,.slice A3 x.f3.length c3,.slice A4 x.f4.length c4],.string key] w fun e w'=>e=.returned (.int .i64 (atI x key))∧Below w.heap.size w w':=by
 obtain ⟨k,hk⟩:=(l3At_ev x key hl).rounds
 exact spec_l3At.calls k _ _ _ _ _ _ _ _ _ _ _ w g3 l3 g4 l4 hk
set_option maxHeartbeats 16000000 in
set_option maxRecDepth 100000 in
theorem setS_calls (x:S32) (key:ByteArray) (y:S32) (hc:cntTop x≤1099511627776) (hcy:cntTop y≤1099511627776) (A3 A4 C3 C4:Option Addr) (c3 c4 e3 e4:Nat) (w:World) (g3:Kd.C Kd.string w A3 x.f3.length x.f3) (l3:x.f3.length≤c3) (g4:k32.C w A4 x.f4.length x.f4) (l4:x.f4.length≤c4) (p3:Kd.C Kd.string w C3 y.f3.length y.f3) (q3:y.f3.length≤e3) (p4:k32.C w C4 y.f4.length y.f4) (q4:y.f4.length≤e4) :
  Calls Tryz.prog 54 #[.agg #[.int .i64 x.f0,.int .i64 x.f1,.string x.f2,.slice A3 x.f3.length c3,.slice A4 x.f4.length c4],.string key,.agg #[.int .i64 y.f0,.int .i64 y.f1,.string y.f2,.slice C3 y.f3.length e3,.slice C4 y.f4.length e4]] w fun e w'=>Made w (setV x key y) e w':=by
 have hu:=Tryz.underlying32
 have hl3:x.f3.length≤1099511627776:=by unfold cntTop at hc; omega
 have hl4:x.f4.length≤1099511627776:=by have:=len_cnt x.f4; unfold cntTop at hc; omega
 have G3:=Lib.hid g3
 have G4:=Lib.hid g4
 have P3:=Lib.hid p3
 have P4:=Lib.hid p4
 have HB:=Lib.hid (Below.refl w.heap.size w)
 have T0:True:=trivial
 have HCP:=Lib.hid (copyS_all x hc)
 have HCY:=Lib.hid (copyS_all y hcy)
 obtain ⟨kk,hkk⟩:∃ kk,kk=atI x key:=⟨_,rfl⟩
 have HKK:=Lib.hid hkk
 clear g3 g4 p3 p4 hkk hc hcy
 unfold Made
 by_cases h5:x.f0=5
 ·by_cases h6:x.f3.length=x.f4.length
  ·by_cases h1:0≤kk
   ·skip
    have b5:(x.f0 != 5)=false:=by rw [h5]; rfl
    have b6:((x.f3.length:Int) != (x.f4.length:Int))=false:=by rw [h6]; simp
    have d1:decide (0≤kk)=true:=decide_eq_true h1
    obtain ⟨i,hq,ei,hi4⟩:∃ i:Nat,kAt x.f3 key=some i∧kk=i∧i<x.f4.length:=by
     rcases atI_get x key with ⟨e1,_⟩|⟨i,hi,_,e1,_,e3,_⟩
     ·have e:=HKK.out; rw [e1] at e; omega
     ·exact ⟨i,e3,by rw [HKK.out,e1],hi⟩
    have HI:Hid (i<x.f4.length):=hi4
    have HP4:Hid (0<x.f4.length):=by show _<_; omega
    have HV:Hid (setV x key y=⟨x.f0,x.f1,x.f2,x.f3,x.f4.set i y⟩):=by show _=_; unfold setV; rw [if_pos ⟨h5,h6⟩,hq]
    have hz0:(0:Int)≤(i:Int):=by omega
    have hz1:(i:Int)<(x.f4.length:Int):=by omega
    subst ei
    clear hq h1 h5 h6
    go_enter Tryz.func54,Tryz.ntmps54
    go_wp2_with (first
       |(clear T0; (with_reducible refine gate_dst (N:=3) rfl ?_); refine box_event rfl (N:=3) rfl (cs:=#[.int .i64 x.f0,.int .i64 x.f1,.string x.f2,.slice A3 x.f3.length c3,.slice A4 x.f4.length c4]) (t:=32) (by first|(go_simp; done)|(go_simp; rfl)) ?_; intro gt hg wt bk hb; have GEt:=Lib.hid (Nat.le_trans HB.out.size (Nat.le_of_eq hg.symm)); replace HB:=Lib.hid (HB.out.trans (hb.mono HB.out.size)); have BKt:=Lib.hid bk; clear hg bk hb; obtain ⟨t0,t1,t2,t3,t4⟩:=cells5 BKt.out; obtain ⟨ft0,ft1,ft2,ft3,ft4⟩:=free5 BKt.out; have T1:True:=trivial)
       |(clear T1; (with_reducible refine gate_dst (N:=5) rfl ?_); refine box_event rfl (N:=5) rfl (cs:=#[.int .i64 y.f0,.int .i64 y.f1,.string y.f2,.slice C3 y.f3.length e3,.slice C4 y.f4.length e4]) (t:=32) (by first|(go_simp; done)|(go_simp; rfl)) ?_; intro gy hg wy bk hb; have GEy:=Lib.hid (Nat.le_trans HB.out.size (Nat.le_of_eq hg.symm)); have Lty:=Lib.hid (Nat.lt_of_lt_of_le (blk_lt BKt.out) (Nat.le_of_eq hg.symm)); replace BKt:=Lib.hid (blk_below BKt.out hb); replace HB:=Lib.hid (HB.out.trans (hb.mono HB.out.size)); have BKy:=Lib.hid bk; clear hg bk hb; clear t0 t1 t2 t3 t4 ft0 ft1 ft2 ft3 ft4; obtain ⟨t0,t1,t2,t3,t4⟩:=cells5 BKt.out; obtain ⟨ft0,ft1,ft2,ft3,ft4⟩:=free5 BKt.out; obtain ⟨y0,y1,y2,y3,y4⟩:=cells5 BKy.out; obtain ⟨fy0,fy1,fy2,fy3,fy4⟩:=free5 BKy.out; have T2:True:=trivial)
       |(clear T2; (with_reducible refine gate_dst (N:=6) rfl ?_); refine box_event rfl (N:=6) rfl (cs:=#[.int .i64 0,.int .i64 0,.string ⟨#[]⟩,.slice none 0 0,.slice none 0 0]) (t:=32) (by first|(go_simp; done)|(go_simp; rfl)) ?_; intro gr hg wr bk hb; have GEr:=Lib.hid (Nat.le_trans HB.out.size (Nat.le_of_eq hg.symm)); have Ltr:=Lib.hid (Nat.lt_of_lt_of_le (blk_lt BKt.out) (Nat.le_of_eq hg.symm)); have Lyr:=Lib.hid (Nat.lt_of_lt_of_le (blk_lt BKy.out) (Nat.le_of_eq hg.symm)); replace BKt:=Lib.hid (blk_below BKt.out hb); replace BKy:=Lib.hid (blk_below BKy.out hb); replace HB:=Lib.hid (HB.out.trans (hb.mono HB.out.size)); have BKr:=Lib.hid bk; clear hg bk hb; clear t0 t1 t2 t3 t4 ft0 ft1 ft2 ft3 ft4; clear y0 y1 y2 y3 y4 fy0 fy1 fy2 fy3 fy4; obtain ⟨t0,t1,t2,t3,t4⟩:=cells5 BKt.out; obtain ⟨ft0,ft1,ft2,ft3,ft4⟩:=free5 BKt.out; obtain ⟨y0,y1,y2,y3,y4⟩:=cells5 BKy.out; obtain ⟨fy0,fy1,fy2,fy3,fy4⟩:=free5 BKy.out; obtain ⟨r0,r1,r2,r3,r4⟩:=cells5 BKr.out; obtain ⟨fr0,fr1,fr2,fr3,fr4⟩:=free5 BKr.out; have T3:True:=trivial)
       |(clear T3; go_at_call 113; refine (HCP.out _ _ _ _ _ (Kd.C_below G3.out HB.out) l3 (Kd.C_below G4.out HB.out) l4).mono ?_; rintro e w1 ⟨v3,v4,fss,rfl,ht,hg,hb⟩; obtain ⟨B3,d3,rfl,m3,n3⟩:=SRow_C ht.1; have hf4:=own_form ht.2.1.choose_spec.1 HP4.out; obtain ⟨g4,d4,rfl⟩:=hf4; clear n3; have DtHT:=Lib.hid (fun k hk=>Nat.lt_of_lt_of_le (blk_lt BKt.out) (hg k hk)); have DyHT:=Lib.hid (fun k hk=>Nat.lt_of_lt_of_le (blk_lt BKy.out) (hg k hk)); have DrHT:=Lib.hid (fun k hk=>Nat.lt_of_lt_of_le (blk_lt BKr.out) (hg k hk)); have GEHT:=Lib.hid (fun k hk=>Nat.le_trans HB.out.size (hg k hk)); replace BKt:=Lib.hid (blk_below BKt.out hb); replace BKy:=Lib.hid (blk_below BKy.out hb); replace BKr:=Lib.hid (blk_below BKr.out hb); replace HB:=Lib.hid (HB.out.trans (hb.mono HB.out.size)); have HT:=Lib.hid ht; clear t0 t1 t2 t3 t4 ft0 ft1 ft2 ft3 ft4; clear y0 y1 y2 y3 y4 fy0 fy1 fy2 fy3 fy4; clear r0 r1 r2 r3 r4 fr0 fr1 fr2 fr3 fr4; obtain ⟨t0,t1,t2,t3,t4⟩:=cells5 BKt.out; obtain ⟨ft0,ft1,ft2,ft3,ft4⟩:=free5 BKt.out; obtain ⟨y0,y1,y2,y3,y4⟩:=cells5 BKy.out; obtain ⟨fy0,fy1,fy2,fy3,fy4⟩:=free5 BKy.out; obtain ⟨r0,r1,r2,r3,r4⟩:=cells5 BKr.out; obtain ⟨fr0,fr1,fr2,fr3,fr4⟩:=free5 BKr.out; clear ht hg hb; have T4:True:=trivial)
       |(clear T4; (with_reducible refine gate_dst (N:=7) rfl ?_); refine box_event rfl (N:=7) rfl (cs:=#[.int .i64 0,.int .i64 0,.string ⟨#[]⟩,.slice none 0 0,.slice none 0 0]) (t:=32) (by first|(go_simp; done)|(go_simp; rfl)) ?_; intro go hg wo bk hb; have GEo:=Lib.hid (Nat.le_trans HB.out.size (Nat.le_of_eq hg.symm)); have UoHT:=Lib.hid (fun k hk=>Nat.lt_of_lt_of_le (Top_lt HT.out k hk) (Nat.le_of_eq hg.symm)); have Lto:=Lib.hid (Nat.lt_of_lt_of_le (blk_lt BKt.out) (Nat.le_of_eq hg.symm)); have Lyo:=Lib.hid (Nat.lt_of_lt_of_le (blk_lt BKy.out) (Nat.le_of_eq hg.symm)); have Lro:=Lib.hid (Nat.lt_of_lt_of_le (blk_lt BKr.out) (Nat.le_of_eq hg.symm)); replace BKt:=Lib.hid (blk_below BKt.out hb); replace BKy:=Lib.hid (blk_below BKy.out hb); replace BKr:=Lib.hid (blk_below BKr.out hb); replace HT:=Lib.hid (Top_below HT.out hb); replace HB:=Lib.hid (HB.out.trans (hb.mono HB.out.size)); have BKo:=Lib.hid bk; clear hg bk hb; clear t0 t1 t2 t3 t4 ft0 ft1 ft2 ft3 ft4; clear y0 y1 y2 y3 y4 fy0 fy1 fy2 fy3 fy4; clear r0 r1 r2 r3 r4 fr0 fr1 fr2 fr3 fr4; obtain ⟨t0,t1,t2,t3,t4⟩:=cells5 BKt.out; obtain ⟨ft0,ft1,ft2,ft3,ft4⟩:=free5 BKt.out; obtain ⟨y0,y1,y2,y3,y4⟩:=cells5 BKy.out; obtain ⟨fy0,fy1,fy2,fy3,fy4⟩:=free5 BKy.out; obtain ⟨r0,r1,r2,r3,r4⟩:=cells5 BKr.out; obtain ⟨fr0,fr1,fr2,fr3,fr4⟩:=free5 BKr.out; obtain ⟨o0,o1,o2,o3,o4⟩:=cells5 BKo.out; obtain ⟨fo0,fo1,fo2,fo3,fo4⟩:=free5 BKo.out; have T5:True:=trivial)
       |(clear T5; (with_reducible refine gate_store (p:=7) rfl ?_); refine store5_event rfl rfl rfl (g:=go) (.int .i64 x.f0) (.int .i64 x.f1) (.string x.f2) (.slice B3 x.f3.length d3) (.slice (some ⟨g4,0,none⟩) x.f4.length d4) BKo.out (by first|(go_simp; done)|(go_simp; rfl)) ?_; intro w2 bk hc; replace BKt:=Lib.hid (blk_chg BKt.out hc (fun e=>Nat.ne_of_lt Lto.out e)); replace BKy:=Lib.hid (blk_chg BKy.out hc (fun e=>Nat.ne_of_lt Lyo.out e)); replace BKr:=Lib.hid (blk_chg BKr.out hc (fun e=>Nat.ne_of_lt Lro.out e)); replace HT:=Lib.hid (Top_chg HT.out hc (fun k hk e=>Nat.ne_of_lt (UoHT.out k hk) e)); replace HB:=Lib.hid (below_chg HB.out HB.out.size hc (fun k e=>e ▸ GEo.out)); replace BKo:=Lib.hid bk; clear t0 t1 t2 t3 t4 ft0 ft1 ft2 ft3 ft4; clear y0 y1 y2 y3 y4 fy0 fy1 fy2 fy3 fy4; clear r0 r1 r2 r3 r4 fr0 fr1 fr2 fr3 fr4; clear o0 o1 o2 o3 o4 fo0 fo1 fo2 fo3 fo4; obtain ⟨t0,t1,t2,t3,t4⟩:=cells5 BKt.out; obtain ⟨ft0,ft1,ft2,ft3,ft4⟩:=free5 BKt.out; obtain ⟨y0,y1,y2,y3,y4⟩:=cells5 BKy.out; obtain ⟨fy0,fy1,fy2,fy3,fy4⟩:=free5 BKy.out; obtain ⟨r0,r1,r2,r3,r4⟩:=cells5 BKr.out; obtain ⟨fr0,fr1,fr2,fr3,fr4⟩:=free5 BKr.out; obtain ⟨o0,o1,o2,o3,o4⟩:=cells5 BKo.out; obtain ⟨fo0,fo1,fo2,fo3,fo4⟩:=free5 BKo.out; clear bk hc; have T6:True:=trivial)
       |(clear T6; go_at_call 114; refine (l3At_calls x key hl3 (Kd.C_below G3.out HB.out) l3 (Kd.C_below G4.out HB.out) l4).mono ?_; rintro e w4 ⟨rfl,hb⟩; rw [← HKK.out]; replace BKt:=Lib.hid (blk_below BKt.out hb); replace BKy:=Lib.hid (blk_below BKy.out hb); replace BKr:=Lib.hid (blk_below BKr.out hb); replace BKo:=Lib.hid (blk_below BKo.out hb); replace HT:=Lib.hid (Top_below HT.out hb); replace HB:=Lib.hid (HB.out.trans (hb.mono HB.out.size)); clear t0 t1 t2 t3 t4 ft0 ft1 ft2 ft3 ft4; clear y0 y1 y2 y3 y4 fy0 fy1 fy2 fy3 fy4; clear r0 r1 r2 r3 r4 fr0 fr1 fr2 fr3 fr4; clear o0 o1 o2 o3 o4 fo0 fo1 fo2 fo3 fo4; obtain ⟨t0,t1,t2,t3,t4⟩:=cells5 BKt.out; obtain ⟨ft0,ft1,ft2,ft3,ft4⟩:=free5 BKt.out; obtain ⟨y0,y1,y2,y3,y4⟩:=cells5 BKy.out; obtain ⟨fy0,fy1,fy2,fy3,fy4⟩:=free5 BKy.out; obtain ⟨r0,r1,r2,r3,r4⟩:=cells5 BKr.out; obtain ⟨fr0,fr1,fr2,fr3,fr4⟩:=free5 BKr.out; obtain ⟨o0,o1,o2,o3,o4⟩:=cells5 BKo.out; obtain ⟨fo0,fo1,fo2,fo3,fo4⟩:=free5 BKo.out; clear hb; have T7:True:=trivial))
    go_region_with (clear T7; go_at_call 113; replace BKt:=Lib.hid (blk_below BKt.out (below_drew (Below.refl _ _))); replace BKy:=Lib.hid (blk_below BKy.out (below_drew (Below.refl _ _))); replace BKr:=Lib.hid (blk_below BKr.out (below_drew (Below.refl _ _))); replace BKo:=Lib.hid (blk_below BKo.out (below_drew (Below.refl _ _))); replace HT:=Lib.hid (Top_below HT.out (below_drew (Below.refl _ _))); replace HB:=Lib.hid (HB.out.trans ((below_drew (Below.refl _ _)).mono HB.out.size)); refine (HCY.out _ _ _ _ _ (Kd.C_below P3.out HB.out) q3 (Kd.C_below P4.out HB.out) q4).mono ?_; rintro e w6 ⟨z3,z4,gss,rfl,ht,hg,hb⟩; obtain ⟨E3,h3,rfl,j3,n3⟩:=SRow_C ht.1; obtain ⟨E4,h4,rfl,j4,n4⟩:=ORow_C ht.2.1; clear n3 n4; have DtHY:=Lib.hid (fun k hk=>Nat.lt_of_lt_of_le (blk_lt BKt.out) (hg k hk)); have DyHY:=Lib.hid (fun k hk=>Nat.lt_of_lt_of_le (blk_lt BKy.out) (hg k hk)); have DrHY:=Lib.hid (fun k hk=>Nat.lt_of_lt_of_le (blk_lt BKr.out) (hg k hk)); have DoHY:=Lib.hid (fun k hk=>Nat.lt_of_lt_of_le (blk_lt BKo.out) (hg k hk)); have DTY:=Lib.hid (fun k hk j hj=>Nat.lt_of_lt_of_le (Top_lt HT.out k hk) (hg j hj)); have GEHY:=Lib.hid (fun k hk=>Nat.le_trans HB.out.size (hg k hk)); replace BKt:=Lib.hid (blk_below BKt.out hb); replace BKy:=Lib.hid (blk_below BKy.out hb); replace BKr:=Lib.hid (blk_below BKr.out hb); replace BKo:=Lib.hid (blk_below BKo.out hb); replace HT:=Lib.hid (Top_below HT.out hb); replace HB:=Lib.hid (HB.out.trans (hb.mono HB.out.size)); have HY:=Lib.hid ht; clear t0 t1 t2 t3 t4 ft0 ft1 ft2 ft3 ft4; clear y0 y1 y2 y3 y4 fy0 fy1 fy2 fy3 fy4; clear r0 r1 r2 r3 r4 fr0 fr1 fr2 fr3 fr4; clear o0 o1 o2 o3 o4 fo0 fo1 fo2 fo3 fo4; obtain ⟨t0,t1,t2,t3,t4⟩:=cells5 BKt.out; obtain ⟨ft0,ft1,ft2,ft3,ft4⟩:=free5 BKt.out; obtain ⟨y0,y1,y2,y3,y4⟩:=cells5 BKy.out; obtain ⟨fy0,fy1,fy2,fy3,fy4⟩:=free5 BKy.out; obtain ⟨r0,r1,r2,r3,r4⟩:=cells5 BKr.out; obtain ⟨fr0,fr1,fr2,fr3,fr4⟩:=free5 BKr.out; obtain ⟨o0,o1,o2,o3,o4⟩:=cells5 BKo.out; obtain ⟨fo0,fo1,fo2,fo3,fo4⟩:=free5 BKo.out; clear ht hg hb; obtain ⟨inn,hi1,hi2,hi3⟩:=HT.out.2.1; obtain ⟨u0,c0,f0⟩:=own_at hi1 (i*5) (by have:=hi1.1; have:=HI.out; omega); obtain ⟨u1,c1,f1⟩:=own_at hi1 (i*5+1) (by have:=hi1.1; have:=HI.out; omega); obtain ⟨u2,c2,f2⟩:=own_at hi1 (i*5+2) (by have:=hi1.1; have:=HI.out; omega); obtain ⟨u3,c3,f3⟩:=own_at hi1 (i*5+3) (by have:=hi1.1; have:=HI.out; omega); obtain ⟨u4,c4,f4⟩:=own_at hi1 (i*5+4) (by have:=hi1.1; have:=HI.out; omega); clear hi1 hi2 hi3; have hgo:g4 ≠ go:=fun e=>Nat.ne_of_lt (UoHT.out g4 (by simp [topFp,Value.ownBlock])) e; have hog:go ≠ g4:=fun e=>hgo e.symm; have hgr:g4 ≠ gr:=fun e=>Nat.ne_of_gt (DrHT.out g4 (by simp [topFp,Value.ownBlock])) e; have hrg:gr ≠ g4:=fun e=>hgr e.symm; have hro:gr ≠ go:=fun e=>Nat.ne_of_lt Lro.out e; have hor:go ≠ gr:=fun e=>Nat.ne_of_gt Lro.out e; have T8:True:=trivial)
    all_goals
     go_wp2
     rw [HV.out]
     have hnd:=HT.out.2.2
     obtain ⟨hn1,hn2,hn3,hn4⟩:=nd3_inv hnd
     have hfl:fss.length=x.f4.length:=by obtain ⟨_,_,h,_⟩:=HT.out.2.1; exact h
     have hyo:OT w6 y [.int .i64 y.f0,.int .i64 y.f1,.string y.f2,.slice E3 y.f3.length h3,.slice E4 y.f4.length h4] (topFp (.slice E3 y.f3.length h3) (.slice E4 y.f4.length h4) gss):=(OT_iff _ _ _ _).2 ⟨_,_,gss,rfl,HY.out.1,HY.out.2.1,rfl⟩
     have hin:∀ k,k ∈ fss.flatten→k ∈ topFp (.slice B3 x.f3.length d3) (.slice (some ⟨g4,0,none⟩) x.f4.length d4) fss:=fun k hk=>by simp only [topFp,List.mem_append]; exact .inr (.inr hk)
     have hg4:g4 ∈ topFp (.slice B3 x.f3.length d3) (.slice (some ⟨g4,0,none⟩) x.f4.length d4) fss:=by simp [topFp,Value.ownBlock]
     have hny:∀ k ∈ topFp (.slice E3 y.f3.length h3) (.slice E4 y.f4.length h4) gss,k ∉ fss.flatten:=fun k hk hm=>by have:=DTY.out k (hin k hm) k hk; omega
     have hput:=ORow_put (i:=i) HT.out.2.1 HI.out (fun k hk e=>hn3 g4 rfl (e ▸ hk)) hyo (fun k hk e=>by have:=DTY.out g4 hg4 k hk; omega)
     have hcg:=chg_set5 (S:=fun k=>k=g4) w6 g4 i (.int .i64 y.f0) (.int .i64 y.f1) (.string y.f2) (.slice E3 y.f3.length h3) (.slice E4 y.f4.length h4) rfl
     have HTF:=Lib.hid (show Top _ (.slice B3 x.f3.length d3) (.slice (some ⟨g4,0,none⟩) x.f4.length d4) ⟨x.f0,x.f1,x.f2,x.f3,x.f4.set i y⟩ (fss.set i (topFp (.slice E3 y.f3.length h3) (.slice E4 y.f4.length h4) gss)) from
      ⟨own_chg HT.out.1 hcg (fun k hk e=>hn1 k hk (by rw [e]; rfl)),hput,nd3 hn1 (fun k hk hm=>by
       rcases set_mem (by rw [hfl]; exact HI.out) hm with hm|hm
       ·exact hn2 k hk hm
       ·have:=DTY.out k (by simp [topFp,hk]) k hm; omega) (fun k hk hm=>by
       rcases set_mem (by rw [hfl]; exact HI.out) hm with hm|hm
       ·exact hn3 k hk hm
       ·have:=DTY.out k (by simp [topFp,hk]) k hm; omega) (set_nodup i (by rw [hfl]; exact HI.out) hn4 HY.out.2.2 hny)⟩)
     have hmem:∀ k ∈ topFp (.slice B3 x.f3.length d3) (.slice (some ⟨g4,0,none⟩) x.f4.length d4) (fss.set i (topFp (.slice E3 y.f3.length h3) (.slice E4 y.f4.length h4) gss)),k ∈ topFp (.slice B3 x.f3.length d3) (.slice (some ⟨g4,0,none⟩) x.f4.length d4) fss ∨ k ∈ topFp (.slice E3 y.f3.length h3) (.slice E4 y.f4.length h4) gss:=fun k hk=>by
      simp only [topFp,List.mem_append] at hk ⊢
      rcases hk with hk|hk|hk
      ·exact .inl (.inl hk)
      ·exact .inl (.inr (.inl hk))
      ·rcases set_mem (by rw [hfl]; exact HI.out) hk with hk|hk
       ·exact .inl (.inr (.inr hk))
       ·simp only [topFp,List.mem_append] at hk
        exact .inr hk
     have HRF:=Lib.hid (fun k hk=>(hmem k hk).elim (DrHT.out k) (DrHY.out k))
     have HGF:=Lib.hid (fun k hk=>(hmem k hk).elim (GEHT.out k) (GEHY.out k))
     have HBF:=Lib.hid (below_chg HB.out HB.out.size hcg (fun k e=>e ▸ GEHT.out g4 hg4))
     exact bodyPost_ret (v:=.agg #[.int .i64 x.f0,.int .i64 x.f1,.string x.f2,.slice B3 x.f3.length d3,.slice (some ⟨g4,0,none⟩) x.f4.length d4]) (by simp [results,Tryz.results54,go_sem,r0,r1,r2,r3,r4,fr0,fr1,fr2,fr3,fr4,hrg,hgr,hro,hor,hog,hgo]) rfl
      ⟨_,_,_,rfl,Top_chg (S:=fun k=>k=gr) HTF.out (((((chg_put _ gr 0 _).trans (chg_put _ gr 1 _)).trans (chg_put _ gr 2 _)).trans (chg_put _ gr 3 _)).trans (chg_put _ gr 4 _)) (fun k hk e=>Nat.ne_of_gt (HRF.out k hk) e),HGF.out,((((HBF.out.setCell (p:=⟨gr,0,none⟩) GEr.out _).setCell (p:=⟨gr,1,none⟩) GEr.out _).setCell (p:=⟨gr,2,none⟩) GEr.out _).setCell (p:=⟨gr,3,none⟩) GEr.out _).setCell (p:=⟨gr,4,none⟩) GEr.out _⟩
   ·skip
    have b5:(x.f0 != 5)=false:=by rw [h5]; rfl
    have b6:((x.f3.length:Int) != (x.f4.length:Int))=false:=by rw [h6]; simp
    have d1:decide (0≤kk)=false:=decide_eq_false h1
    have hna:kAt x.f3 key=none:=by
     cases hq:kAt x.f3 key with
     |none=>rfl
     |some j =>
      exfalso
      have e:=HKK.out
      unfold atI at e
      rw [if_pos h5,hq] at e
      simp only at e
      rw [if_pos (by have:=(kAt_some hq).1; omega)] at e
      omega
    have HNA:=Lib.hid hna
    have HL:Hid (x.f3.length=x.f4.length):=h6
    have HV:Hid (∀ p,insAt x.f3 key=p→setV x key y=⟨x.f0,x.f1,x.f2,x.f3.take p ++ key::x.f3.drop p,x.f4.take p ++ y::x.f4.drop p⟩):=fun p hp=>by unfold setV; rw [if_pos ⟨h5,h6⟩,hna,← hp]
    clear h5 h6 hna h1
    go_enter Tryz.func54,Tryz.ntmps54
    go_wp2_with (first
       |(clear T0; (with_reducible refine gate_dst (N:=3) rfl ?_); refine box_event rfl (N:=3) rfl (cs:=#[.int .i64 x.f0,.int .i64 x.f1,.string x.f2,.slice A3 x.f3.length c3,.slice A4 x.f4.length c4]) (t:=32) (by first|(go_simp; done)|(go_simp; rfl)) ?_; intro gt hg wt bk hb; have GEt:=Lib.hid (Nat.le_trans HB.out.size (Nat.le_of_eq hg.symm)); replace HB:=Lib.hid (HB.out.trans (hb.mono HB.out.size)); have BKt:=Lib.hid bk; clear hg bk hb; obtain ⟨t0,t1,t2,t3,t4⟩:=cells5 BKt.out; obtain ⟨ft0,ft1,ft2,ft3,ft4⟩:=free5 BKt.out; have T1:True:=trivial)
       |(clear T1; (with_reducible refine gate_dst (N:=5) rfl ?_); refine box_event rfl (N:=5) rfl (cs:=#[.int .i64 y.f0,.int .i64 y.f1,.string y.f2,.slice C3 y.f3.length e3,.slice C4 y.f4.length e4]) (t:=32) (by first|(go_simp; done)|(go_simp; rfl)) ?_; intro gy hg wy bk hb; have GEy:=Lib.hid (Nat.le_trans HB.out.size (Nat.le_of_eq hg.symm)); have Lty:=Lib.hid (Nat.lt_of_lt_of_le (blk_lt BKt.out) (Nat.le_of_eq hg.symm)); replace BKt:=Lib.hid (blk_below BKt.out hb); replace HB:=Lib.hid (HB.out.trans (hb.mono HB.out.size)); have BKy:=Lib.hid bk; clear hg bk hb; clear t0 t1 t2 t3 t4 ft0 ft1 ft2 ft3 ft4; obtain ⟨t0,t1,t2,t3,t4⟩:=cells5 BKt.out; obtain ⟨ft0,ft1,ft2,ft3,ft4⟩:=free5 BKt.out; obtain ⟨y0,y1,y2,y3,y4⟩:=cells5 BKy.out; obtain ⟨fy0,fy1,fy2,fy3,fy4⟩:=free5 BKy.out; have T2:True:=trivial)
       |(clear T2; (with_reducible refine gate_dst (N:=6) rfl ?_); refine box_event rfl (N:=6) rfl (cs:=#[.int .i64 0,.int .i64 0,.string ⟨#[]⟩,.slice none 0 0,.slice none 0 0]) (t:=32) (by first|(go_simp; done)|(go_simp; rfl)) ?_; intro gr hg wr bk hb; have GEr:=Lib.hid (Nat.le_trans HB.out.size (Nat.le_of_eq hg.symm)); have Ltr:=Lib.hid (Nat.lt_of_lt_of_le (blk_lt BKt.out) (Nat.le_of_eq hg.symm)); have Lyr:=Lib.hid (Nat.lt_of_lt_of_le (blk_lt BKy.out) (Nat.le_of_eq hg.symm)); replace BKt:=Lib.hid (blk_below BKt.out hb); replace BKy:=Lib.hid (blk_below BKy.out hb); replace HB:=Lib.hid (HB.out.trans (hb.mono HB.out.size)); have BKr:=Lib.hid bk; clear hg bk hb; clear t0 t1 t2 t3 t4 ft0 ft1 ft2 ft3 ft4; clear y0 y1 y2 y3 y4 fy0 fy1 fy2 fy3 fy4; obtain ⟨t0,t1,t2,t3,t4⟩:=cells5 BKt.out; obtain ⟨ft0,ft1,ft2,ft3,ft4⟩:=free5 BKt.out; obtain ⟨y0,y1,y2,y3,y4⟩:=cells5 BKy.out; obtain ⟨fy0,fy1,fy2,fy3,fy4⟩:=free5 BKy.out; obtain ⟨r0,r1,r2,r3,r4⟩:=cells5 BKr.out; obtain ⟨fr0,fr1,fr2,fr3,fr4⟩:=free5 BKr.out; have T3:True:=trivial)
       |(clear T3; go_at_call 113; refine (HCP.out _ _ _ _ _ (Kd.C_below G3.out HB.out) l3 (Kd.C_below G4.out HB.out) l4).mono ?_; rintro e w1 ⟨v3,v4,fss,rfl,ht,hg,hb⟩; obtain ⟨B3,d3,rfl,m3,n3⟩:=SRow_C ht.1; obtain ⟨B4,d4,rfl,m4,n4⟩:=ORow_C ht.2.1; clear n3 n4; have DtHT:=Lib.hid (fun k hk=>Nat.lt_of_lt_of_le (blk_lt BKt.out) (hg k hk)); have DyHT:=Lib.hid (fun k hk=>Nat.lt_of_lt_of_le (blk_lt BKy.out) (hg k hk)); have DrHT:=Lib.hid (fun k hk=>Nat.lt_of_lt_of_le (blk_lt BKr.out) (hg k hk)); have GEHT:=Lib.hid (fun k hk=>Nat.le_trans HB.out.size (hg k hk)); replace BKt:=Lib.hid (blk_below BKt.out hb); replace BKy:=Lib.hid (blk_below BKy.out hb); replace BKr:=Lib.hid (blk_below BKr.out hb); replace HB:=Lib.hid (HB.out.trans (hb.mono HB.out.size)); have HT:=Lib.hid ht; clear t0 t1 t2 t3 t4 ft0 ft1 ft2 ft3 ft4; clear y0 y1 y2 y3 y4 fy0 fy1 fy2 fy3 fy4; clear r0 r1 r2 r3 r4 fr0 fr1 fr2 fr3 fr4; obtain ⟨t0,t1,t2,t3,t4⟩:=cells5 BKt.out; obtain ⟨ft0,ft1,ft2,ft3,ft4⟩:=free5 BKt.out; obtain ⟨y0,y1,y2,y3,y4⟩:=cells5 BKy.out; obtain ⟨fy0,fy1,fy2,fy3,fy4⟩:=free5 BKy.out; obtain ⟨r0,r1,r2,r3,r4⟩:=cells5 BKr.out; obtain ⟨fr0,fr1,fr2,fr3,fr4⟩:=free5 BKr.out; clear ht hg hb; have T4:True:=trivial)
       |(clear T4; (with_reducible refine gate_dst (N:=7) rfl ?_); refine box_event rfl (N:=7) rfl (cs:=#[.int .i64 0,.int .i64 0,.string ⟨#[]⟩,.slice none 0 0,.slice none 0 0]) (t:=32) (by first|(go_simp; done)|(go_simp; rfl)) ?_; intro go hg wo bk hb; have GEo:=Lib.hid (Nat.le_trans HB.out.size (Nat.le_of_eq hg.symm)); have UoHT:=Lib.hid (fun k hk=>Nat.lt_of_lt_of_le (Top_lt HT.out k hk) (Nat.le_of_eq hg.symm)); have Lto:=Lib.hid (Nat.lt_of_lt_of_le (blk_lt BKt.out) (Nat.le_of_eq hg.symm)); have Lyo:=Lib.hid (Nat.lt_of_lt_of_le (blk_lt BKy.out) (Nat.le_of_eq hg.symm)); have Lro:=Lib.hid (Nat.lt_of_lt_of_le (blk_lt BKr.out) (Nat.le_of_eq hg.symm)); replace BKt:=Lib.hid (blk_below BKt.out hb); replace BKy:=Lib.hid (blk_below BKy.out hb); replace BKr:=Lib.hid (blk_below BKr.out hb); replace HT:=Lib.hid (Top_below HT.out hb); replace HB:=Lib.hid (HB.out.trans (hb.mono HB.out.size)); have BKo:=Lib.hid bk; clear hg bk hb; clear t0 t1 t2 t3 t4 ft0 ft1 ft2 ft3 ft4; clear y0 y1 y2 y3 y4 fy0 fy1 fy2 fy3 fy4; clear r0 r1 r2 r3 r4 fr0 fr1 fr2 fr3 fr4; obtain ⟨t0,t1,t2,t3,t4⟩:=cells5 BKt.out; obtain ⟨ft0,ft1,ft2,ft3,ft4⟩:=free5 BKt.out; obtain ⟨y0,y1,y2,y3,y4⟩:=cells5 BKy.out; obtain ⟨fy0,fy1,fy2,fy3,fy4⟩:=free5 BKy.out; obtain ⟨r0,r1,r2,r3,r4⟩:=cells5 BKr.out; obtain ⟨fr0,fr1,fr2,fr3,fr4⟩:=free5 BKr.out; obtain ⟨o0,o1,o2,o3,o4⟩:=cells5 BKo.out; obtain ⟨fo0,fo1,fo2,fo3,fo4⟩:=free5 BKo.out; have T5:True:=trivial)
       |(clear T5; (with_reducible refine gate_store (p:=7) rfl ?_); refine store5_event rfl rfl rfl (g:=go) (.int .i64 x.f0) (.int .i64 x.f1) (.string x.f2) (.slice B3 x.f3.length d3) (.slice B4 x.f4.length d4) BKo.out (by first|(go_simp; done)|(go_simp; rfl)) ?_; intro w2 bk hc; replace BKt:=Lib.hid (blk_chg BKt.out hc (fun e=>Nat.ne_of_lt Lto.out e)); replace BKy:=Lib.hid (blk_chg BKy.out hc (fun e=>Nat.ne_of_lt Lyo.out e)); replace BKr:=Lib.hid (blk_chg BKr.out hc (fun e=>Nat.ne_of_lt Lro.out e)); replace HT:=Lib.hid (Top_chg HT.out hc (fun k hk e=>Nat.ne_of_lt (UoHT.out k hk) e)); replace HB:=Lib.hid (below_chg HB.out HB.out.size hc (fun k e=>e ▸ GEo.out)); replace BKo:=Lib.hid bk; clear t0 t1 t2 t3 t4 ft0 ft1 ft2 ft3 ft4; clear y0 y1 y2 y3 y4 fy0 fy1 fy2 fy3 fy4; clear r0 r1 r2 r3 r4 fr0 fr1 fr2 fr3 fr4; clear o0 o1 o2 o3 o4 fo0 fo1 fo2 fo3 fo4; obtain ⟨t0,t1,t2,t3,t4⟩:=cells5 BKt.out; obtain ⟨ft0,ft1,ft2,ft3,ft4⟩:=free5 BKt.out; obtain ⟨y0,y1,y2,y3,y4⟩:=cells5 BKy.out; obtain ⟨fy0,fy1,fy2,fy3,fy4⟩:=free5 BKy.out; obtain ⟨r0,r1,r2,r3,r4⟩:=cells5 BKr.out; obtain ⟨fr0,fr1,fr2,fr3,fr4⟩:=free5 BKr.out; obtain ⟨o0,o1,o2,o3,o4⟩:=cells5 BKo.out; obtain ⟨fo0,fo1,fo2,fo3,fo4⟩:=free5 BKo.out; clear bk hc; have T6:True:=trivial)
       |(clear T6; go_at_call 114; refine (l3At_calls x key hl3 (Kd.C_below G3.out HB.out) l3 (Kd.C_below G4.out HB.out) l4).mono ?_; rintro e w4 ⟨rfl,hb⟩; rw [← HKK.out]; replace BKt:=Lib.hid (blk_below BKt.out hb); replace BKy:=Lib.hid (blk_below BKy.out hb); replace BKr:=Lib.hid (blk_below BKr.out hb); replace BKo:=Lib.hid (blk_below BKo.out hb); replace HT:=Lib.hid (Top_below HT.out hb); replace HB:=Lib.hid (HB.out.trans (hb.mono HB.out.size)); clear t0 t1 t2 t3 t4 ft0 ft1 ft2 ft3 ft4; clear y0 y1 y2 y3 y4 fy0 fy1 fy2 fy3 fy4; clear r0 r1 r2 r3 r4 fr0 fr1 fr2 fr3 fr4; clear o0 o1 o2 o3 o4 fo0 fo1 fo2 fo3 fo4; obtain ⟨t0,t1,t2,t3,t4⟩:=cells5 BKt.out; obtain ⟨ft0,ft1,ft2,ft3,ft4⟩:=free5 BKt.out; obtain ⟨y0,y1,y2,y3,y4⟩:=cells5 BKy.out; obtain ⟨fy0,fy1,fy2,fy3,fy4⟩:=free5 BKy.out; obtain ⟨r0,r1,r2,r3,r4⟩:=cells5 BKr.out; obtain ⟨fr0,fr1,fr2,fr3,fr4⟩:=free5 BKr.out; obtain ⟨o0,o1,o2,o3,o4⟩:=cells5 BKo.out; obtain ⟨fo0,fo1,fo2,fo3,fo4⟩:=free5 BKo.out; clear hb; have T7:True:=trivial))
    have HRD:=Lib.hid (Kd.C_below G3.out HB.out)
    go_loopg [8] (x.f3.length+1) (fun kq v8 w'=>∃ k:Nat,v8=.int .i64 k∧k≤x.f3.length∧kq+k=x.f3.length+1∧w'=w4∧Aside0 (∀ j,j<k→Op.bytesLess (x.f3.getD j ByteArray.empty).toList key.toList=true))
    case atStart=>exact ⟨0,rfl,Nat.zero_le _,by omega,rfl,⟨fun j hj=>absurd hj (Nat.not_lt_zero _)⟩⟩
    case round =>
     obtain ⟨p,rfl,hp,hq,rfl,HK⟩:=hrel
     obtain ⟨k1,rfl⟩:∃ k1,gk=k1+1:=⟨gk-1,by omega⟩
     have hp0:(0:Int)≤(p:Int):=by omega
     by_cases hlt:p<x.f3.length
     ·skip
      have hlti:(p:Int)<(x.f3.length:Int):=by omega
      obtain ⟨b0,off0,rfl,hg0⟩:=C_cells (by omega) HRD.out
      have hcell:=hg0 p hlt
      clear hg0
      obtain ⟨s0,hs0⟩:∃ s0,x.f3.getD p ByteArray.empty=s0:=⟨_,rfl⟩
      rw [hs0] at hcell
      have HS0:Hid (x.f3.getD p ByteArray.empty=s0):=hs0
      clear hs0
      by_cases hl:Op.bytesLess s0.toList key.toList=true
      ·go_wp2
       go_roundg k1
       case rel =>
        refine ⟨p+1,by go_num,by omega,by omega,rfl,⟨fun j hj=>?_⟩⟩
        rcases Nat.lt_or_ge j p with h|h
        ·exact HK.out j h
        ·obtain rfl:j=p:=by omega
         rw [HS0.out]
         exact hl
       case measure=>omega
      ·have hl2:Op.bytesLess s0.toList key.toList=false:=by simpa using hl
       have HI:=Lib.hid (insAt_stop HNA.out HK.out hp (fun _=>by rw [HS0.out]; exact hl2))
       have HP:Hid (p≤x.f3.length):=hp
       have HP4:Hid (p≤x.f4.length):=by show p≤_; have:=HL.out; omega
       have hp3:=HP.out
       have hp4:=HP4.out
       have hpd:(p:Int)≤(d3:Int):=by omega
       have hpd4:(p:Int)≤(d4:Int):=by omega
       have HON:Hid (∀ u ∈ x.f3.map Value.string,u.oneCell'=true):=fun u hu=>by obtain ⟨q,_,rfl⟩:=List.mem_map.1 hu; rfl
       obtain ⟨inner,hi1,hi2,hi3⟩:=HT.out.2.1
       have HONN:=Lib.hid (row_one hi1 hi2 hi3)
       have HSB:=Lib.hid HT.out.1
       have HRB:=Lib.hid hi1
       have HI2:=Lib.hid hi2
       have HI3:=Lib.hid hi3
       have HCW:Hid (Chg (fun k=>k=gr ∨ wr.heap.size≤k) wr wr):=Chg.refl _ _
       have HWW:Hid (w.heap.size≤wr.heap.size):=HB.out.size
       have LB3:Hid (∀ k,(Value.slice B3 x.f3.length d3).ownBlock=some k→k<wr.heap.size):=fun k hk=>(HT.out.1.lt k hk).2
       have LB4:Hid (∀ k,(Value.slice B4 x.f4.length d4).ownBlock=some k→k<wr.heap.size):=fun k hk=>(hi1.lt k hk).2
       have LTt:Hid (gt<wr.heap.size):=blk_lt BKt.out
       have LTy:Hid (gy<wr.heap.size):=blk_lt BKy.out
       have LTr:Hid (gr<wr.heap.size):=blk_lt BKr.out
       have LTo:Hid (go<wr.heap.size):=blk_lt BKo.out
       have NT:Hid (¬ (gt=gr ∨ wr.heap.size≤gt)):=fun e=>e.elim (fun e=>Nat.ne_of_lt Ltr.out e) (fun e=>Nat.not_le.2 LTt.out e)
       have NO:Hid (¬ (go=gr ∨ wr.heap.size≤go)):=fun e=>e.elim (fun e=>Nat.ne_of_gt Lro.out e) (fun e=>Nat.not_le.2 LTo.out e)
       have TC0:=Lib.hid t0
       have TC1:=Lib.hid t1
       have TC2:=Lib.hid t2
       have OC3:=Lib.hid o3
       have OC4:=Lib.hid o4
       have HT4:=Lib.hid HT.out
       have HTLT:=Lib.hid (Top_lt HT.out)
       clear HT hi1 hi2 hi3
       go_wp2_with (first
          |(clear T7; (with_reducible refine gate_dst (N:=54) rfl ?_); refine lit0_event rfl (N:=54) rfl (t:=9) 1 (by first|(go_simp; done)|(go_simp; rfl)) ?_; intro u5 wu5 ho hat hb; have Lu5:=Lib.hid (fun (k:Nat) (hk:u5.ownBlock=some k)=>(by rw [hat] at hk; rw [← Option.some.inj hk]; exact HCW.out.size:wr.heap.size≤k)); replace BKt:=Lib.hid (blk_below BKt.out hb); replace BKy:=Lib.hid (blk_below BKy.out hb); replace BKr:=Lib.hid (blk_below BKr.out hb); replace BKo:=Lib.hid (blk_below BKo.out hb); replace HSB:=Lib.hid (own_below HSB.out hb); replace HRB:=Lib.hid (own_below HRB.out hb); replace HCW:=Lib.hid (HCW.out.trans (Chg.of_same hb)); replace HB:=Lib.hid (HB.out.trans (hb.mono HB.out.size)); have Hu5:=Lib.hid (own_weaken ho (Nat.zero_le _)); clear t0 t1 t2 t3 t4 ft0 ft1 ft2 ft3 ft4; clear y0 y1 y2 y3 y4 fy0 fy1 fy2 fy3 fy4; clear r0 r1 r2 r3 r4 fr0 fr1 fr2 fr3 fr4; clear o0 o1 o2 o3 o4 fo0 fo1 fo2 fo3 fo4; obtain ⟨t0,t1,t2,t3,t4⟩:=cells5 BKt.out; obtain ⟨ft0,ft1,ft2,ft3,ft4⟩:=free5 BKt.out; obtain ⟨y0,y1,y2,y3,y4⟩:=cells5 BKy.out; obtain ⟨fy0,fy1,fy2,fy3,fy4⟩:=free5 BKy.out; obtain ⟨r0,r1,r2,r3,r4⟩:=cells5 BKr.out; obtain ⟨fr0,fr1,fr2,fr3,fr4⟩:=free5 BKr.out; obtain ⟨o0,o1,o2,o3,o4⟩:=cells5 BKo.out; obtain ⟨fo0,fo1,fo2,fo3,fo4⟩:=free5 BKo.out; clear ho hat hb; have T8:True:=trivial)
          |(clear T8; (with_reducible refine gate_builtin (b:=.append) (xs:=#[.tmp 54,.tmp 58]) rfl ?_); at_builtin; refine list_append_rd rfl _ _ 22 9 rfl 0 1 16 (.string ⟨#[]⟩) Tryz.underlying22 info9 rfl (by decide) u5 (0) [] B3 p d3 ((x.f3.map Value.string).take (p*1)) rfl rfl Hu5.out (Src_head HSB.out HP.out HON.out) (by unfold maxLen; omega) (by omega) (Nat.zero_le _) ?_; intro u6 wu6 ho hg hat; rw [Nat.zero_add,List.nil_append] at ho; have Lu6:=Lib.hid (fun (k:Nat) (hk:u6.ownBlock=some k)=>(hat.elim (fun e=>Lu5.out k (e ▸ hk)) (fun e=>by rw [e] at hk; rw [← Option.some.inj hk]; exact HCW.out.size):wr.heap.size≤k)); replace BKt:=Lib.hid (blk_grown BKt.out hg (fun e=>Nat.not_le.2 LTt.out (Lu5.out _ e.symm))); replace BKy:=Lib.hid (blk_grown BKy.out hg (fun e=>Nat.not_le.2 LTy.out (Lu5.out _ e.symm))); replace BKr:=Lib.hid (blk_grown BKr.out hg (fun e=>Nat.not_le.2 LTr.out (Lu5.out _ e.symm))); replace BKo:=Lib.hid (blk_grown BKo.out hg (fun e=>Nat.not_le.2 LTo.out (Lu5.out _ e.symm))); replace HSB:=Lib.hid (own_chg HSB.out (Chg.grown hg (fun k e=>e)) (fun k hk e=>Nat.not_le.2 (LB3.out k hk) (Lu5.out k e))); replace HRB:=Lib.hid (own_chg HRB.out (Chg.grown hg (fun k e=>e)) (fun k hk e=>Nat.not_le.2 (LB4.out k hk) (Lu5.out k e))); replace HCW:=Lib.hid (HCW.out.trans (Chg.grown hg (fun k e=>(.inr (Lu5.out k e):k=gr ∨ wr.heap.size≤k)))); replace HB:=Lib.hid (HB.out.grown hg HB.out.size (fun k e=>Nat.le_trans HWW.out (Lu5.out k e))); have Hu6:=Lib.hid ho; clear t0 t1 t2 t3 t4 ft0 ft1 ft2 ft3 ft4; clear y0 y1 y2 y3 y4 fy0 fy1 fy2 fy3 fy4; clear r0 r1 r2 r3 r4 fr0 fr1 fr2 fr3 fr4; clear o0 o1 o2 o3 o4 fo0 fo1 fo2 fo3 fo4; obtain ⟨t0,t1,t2,t3,t4⟩:=cells5 BKt.out; obtain ⟨ft0,ft1,ft2,ft3,ft4⟩:=free5 BKt.out; obtain ⟨y0,y1,y2,y3,y4⟩:=cells5 BKy.out; obtain ⟨fy0,fy1,fy2,fy3,fy4⟩:=free5 BKy.out; obtain ⟨r0,r1,r2,r3,r4⟩:=cells5 BKr.out; obtain ⟨fr0,fr1,fr2,fr3,fr4⟩:=free5 BKr.out; obtain ⟨o0,o1,o2,o3,o4⟩:=cells5 BKo.out; obtain ⟨fo0,fo1,fo2,fo3,fo4⟩:=free5 BKo.out; clear ho hg hat Hu5; have T9:True:=trivial)
          |(clear T9; (with_reducible refine gate_builtin (b:=.append) (xs:=#[.tmp 60,.tmp 62]) rfl ?_); at_builtin; have hal:=below_alloc (Below.refl wu6.heap.size wu6) (.cells #[.string key] 9); replace BKt:=Lib.hid (blk_below BKt.out hal); replace BKy:=Lib.hid (blk_below BKy.out hal); replace BKr:=Lib.hid (blk_below BKr.out hal); replace BKo:=Lib.hid (blk_below BKo.out hal); replace HSB:=Lib.hid (own_below HSB.out hal); replace HRB:=Lib.hid (own_below HRB.out hal); replace HCW:=Lib.hid (HCW.out.trans (Chg.of_same hal)); replace Hu6:=Lib.hid (own_below Hu6.out hal); replace HB:=Lib.hid (HB.out.trans (hal.mono HB.out.size)); refine list_append_rd rfl _ _ 22 9 rfl 0 1 16 (.string ⟨#[]⟩) Tryz.underlying22 info9 rfl (by decide) u6 (p) ((x.f3.map Value.string).take (p*1)) (some ⟨wu6.heap.size,0,none⟩) 1 1 [.string key] rfl rfl Hu6.out (Src_box wu6 _ _ 1 rfl (by intro u hu; rw [List.mem_singleton.1 hu]; rfl)) (by unfold maxLen; omega) (by omega) (Nat.zero_le _) ?_; intro u7 wu7 ho hg hat; have Lu7:=Lib.hid (fun (k:Nat) (hk:u7.ownBlock=some k)=>(hat.elim (fun e=>Lu6.out k (e ▸ hk)) (fun e=>by rw [e] at hk; rw [← Option.some.inj hk]; exact HCW.out.size):wr.heap.size≤k)); replace BKt:=Lib.hid (blk_grown BKt.out hg (fun e=>Nat.not_le.2 LTt.out (Lu6.out _ e.symm))); replace BKy:=Lib.hid (blk_grown BKy.out hg (fun e=>Nat.not_le.2 LTy.out (Lu6.out _ e.symm))); replace BKr:=Lib.hid (blk_grown BKr.out hg (fun e=>Nat.not_le.2 LTr.out (Lu6.out _ e.symm))); replace BKo:=Lib.hid (blk_grown BKo.out hg (fun e=>Nat.not_le.2 LTo.out (Lu6.out _ e.symm))); replace HSB:=Lib.hid (own_chg HSB.out (Chg.grown hg (fun k e=>e)) (fun k hk e=>Nat.not_le.2 (LB3.out k hk) (Lu6.out k e))); replace HRB:=Lib.hid (own_chg HRB.out (Chg.grown hg (fun k e=>e)) (fun k hk e=>Nat.not_le.2 (LB4.out k hk) (Lu6.out k e))); replace HCW:=Lib.hid (HCW.out.trans (Chg.grown hg (fun k e=>(.inr (Lu6.out k e):k=gr ∨ wr.heap.size≤k)))); replace HB:=Lib.hid (HB.out.grown hg HB.out.size (fun k e=>Nat.le_trans HWW.out (Lu6.out k e))); have Hu7:=Lib.hid ho; clear t0 t1 t2 t3 t4 ft0 ft1 ft2 ft3 ft4; clear y0 y1 y2 y3 y4 fy0 fy1 fy2 fy3 fy4; clear r0 r1 r2 r3 r4 fr0 fr1 fr2 fr3 fr4; clear o0 o1 o2 o3 o4 fo0 fo1 fo2 fo3 fo4; obtain ⟨t0,t1,t2,t3,t4⟩:=cells5 BKt.out; obtain ⟨ft0,ft1,ft2,ft3,ft4⟩:=free5 BKt.out; obtain ⟨y0,y1,y2,y3,y4⟩:=cells5 BKy.out; obtain ⟨fy0,fy1,fy2,fy3,fy4⟩:=free5 BKy.out; obtain ⟨r0,r1,r2,r3,r4⟩:=cells5 BKr.out; obtain ⟨fr0,fr1,fr2,fr3,fr4⟩:=free5 BKr.out; obtain ⟨o0,o1,o2,o3,o4⟩:=cells5 BKo.out; obtain ⟨fo0,fo1,fo2,fo3,fo4⟩:=free5 BKo.out; clear ho hg hat Hu6; clear hal; have T10:True:=trivial)
          |(clear T10; (with_reducible refine gate_dst (N:=64) rfl ?_); refine lit0_event rfl (N:=64) rfl (t:=32) 5 (by first|(go_simp; done)|(go_simp; rfl)) ?_; intro u8 wu8 ho hat hb; have Lu8:=Lib.hid (fun (k:Nat) (hk:u8.ownBlock=some k)=>(by rw [hat] at hk; rw [← Option.some.inj hk]; exact HCW.out.size:wr.heap.size≤k)); replace BKt:=Lib.hid (blk_below BKt.out hb); replace BKy:=Lib.hid (blk_below BKy.out hb); replace BKr:=Lib.hid (blk_below BKr.out hb); replace BKo:=Lib.hid (blk_below BKo.out hb); replace HSB:=Lib.hid (own_below HSB.out hb); replace HRB:=Lib.hid (own_below HRB.out hb); replace HCW:=Lib.hid (HCW.out.trans (Chg.of_same hb)); replace Hu7:=Lib.hid (own_below Hu7.out hb); replace HB:=Lib.hid (HB.out.trans (hb.mono HB.out.size)); have Hu8:=Lib.hid (own_weaken ho (Nat.zero_le _)); clear t0 t1 t2 t3 t4 ft0 ft1 ft2 ft3 ft4; clear y0 y1 y2 y3 y4 fy0 fy1 fy2 fy3 fy4; clear r0 r1 r2 r3 r4 fr0 fr1 fr2 fr3 fr4; clear o0 o1 o2 o3 o4 fo0 fo1 fo2 fo3 fo4; obtain ⟨t0,t1,t2,t3,t4⟩:=cells5 BKt.out; obtain ⟨ft0,ft1,ft2,ft3,ft4⟩:=free5 BKt.out; obtain ⟨y0,y1,y2,y3,y4⟩:=cells5 BKy.out; obtain ⟨fy0,fy1,fy2,fy3,fy4⟩:=free5 BKy.out; obtain ⟨r0,r1,r2,r3,r4⟩:=cells5 BKr.out; obtain ⟨fr0,fr1,fr2,fr3,fr4⟩:=free5 BKr.out; obtain ⟨o0,o1,o2,o3,o4⟩:=cells5 BKo.out; obtain ⟨fo0,fo1,fo2,fo3,fo4⟩:=free5 BKo.out; clear ho hat hb; have T11:True:=trivial)
          |(clear T11; (with_reducible refine gate_builtin (b:=.append) (xs:=#[.tmp 64,.tmp 68]) rfl ?_); at_builtin; refine list_append_rd rfl _ _ 30 32 rfl 0 5 80 (.agg #[(.int .i64 0),(.int .i64 0),(.string ⟨#[]⟩),(.slice none 0 0),(.slice none 0 0)]) Tryz.underlying30 info32 rfl (by decide) u8 (0) [] B4 p d4 (inner.take (p*5)) rfl rfl Hu8.out (Src_head HRB.out HP4.out HONN.out) (by unfold maxLen; omega) (by omega) (Nat.zero_le _) ?_; intro u9 wu9 ho hg hat; rw [Nat.zero_add,List.nil_append] at ho; have Lu9:=Lib.hid (fun (k:Nat) (hk:u9.ownBlock=some k)=>(hat.elim (fun e=>Lu8.out k (e ▸ hk)) (fun e=>by rw [e] at hk; rw [← Option.some.inj hk]; exact HCW.out.size):wr.heap.size≤k)); replace BKt:=Lib.hid (blk_grown BKt.out hg (fun e=>Nat.not_le.2 LTt.out (Lu8.out _ e.symm))); replace BKy:=Lib.hid (blk_grown BKy.out hg (fun e=>Nat.not_le.2 LTy.out (Lu8.out _ e.symm))); replace BKr:=Lib.hid (blk_grown BKr.out hg (fun e=>Nat.not_le.2 LTr.out (Lu8.out _ e.symm))); replace BKo:=Lib.hid (blk_grown BKo.out hg (fun e=>Nat.not_le.2 LTo.out (Lu8.out _ e.symm))); replace HSB:=Lib.hid (own_chg HSB.out (Chg.grown hg (fun k e=>e)) (fun k hk e=>Nat.not_le.2 (LB3.out k hk) (Lu8.out k e))); replace HRB:=Lib.hid (own_chg HRB.out (Chg.grown hg (fun k e=>e)) (fun k hk e=>Nat.not_le.2 (LB4.out k hk) (Lu8.out k e))); replace HCW:=Lib.hid (HCW.out.trans (Chg.grown hg (fun k e=>(.inr (Lu8.out k e):k=gr ∨ wr.heap.size≤k)))); replace Hu7:=Lib.hid (own_chg Hu7.out (Chg.grown hg (fun k e=>e)) (fun k hk e=>(own_two Hu7.out Hu8.out (by decide)) k hk e)); replace HB:=Lib.hid (HB.out.grown hg HB.out.size (fun k e=>Nat.le_trans HWW.out (Lu8.out k e))); have Hu9:=Lib.hid ho; clear t0 t1 t2 t3 t4 ft0 ft1 ft2 ft3 ft4; clear y0 y1 y2 y3 y4 fy0 fy1 fy2 fy3 fy4; clear r0 r1 r2 r3 r4 fr0 fr1 fr2 fr3 fr4; clear o0 o1 o2 o3 o4 fo0 fo1 fo2 fo3 fo4; obtain ⟨t0,t1,t2,t3,t4⟩:=cells5 BKt.out; obtain ⟨ft0,ft1,ft2,ft3,ft4⟩:=free5 BKt.out; obtain ⟨y0,y1,y2,y3,y4⟩:=cells5 BKy.out; obtain ⟨fy0,fy1,fy2,fy3,fy4⟩:=free5 BKy.out; obtain ⟨r0,r1,r2,r3,r4⟩:=cells5 BKr.out; obtain ⟨fr0,fr1,fr2,fr3,fr4⟩:=free5 BKr.out; obtain ⟨o0,o1,o2,o3,o4⟩:=cells5 BKo.out; obtain ⟨fo0,fo1,fo2,fo3,fo4⟩:=free5 BKo.out; clear ho hg hat Hu8; have T12:True:=trivial)
          |(clear T12; go_at_call 113; refine (HCY.out _ _ _ _ _ (Kd.C_below P3.out HB.out) q3 (Kd.C_below P4.out HB.out) q4).mono ?_; rintro e w9 ⟨z3,z4,gss,rfl,ht,hg,hb⟩; obtain ⟨E3,h3,rfl,j3,n3⟩:=SRow_C ht.1; obtain ⟨E4,h4,rfl,j4,n4⟩:=ORow_C ht.2.1; clear n3 n4; have GEHY:=Lib.hid (fun k hk=>(Nat.le_trans HCW.out.size (hg k hk):wr.heap.size≤k)); have DY7:=Lib.hid (fun k hk j hj=>Nat.lt_of_lt_of_le (Hu7.out.lt k hk).2 (hg j hj)); have DY9:=Lib.hid (fun k hk j hj=>Nat.lt_of_lt_of_le (Hu9.out.lt k hk).2 (hg j hj)); replace BKt:=Lib.hid (blk_below BKt.out hb); replace BKy:=Lib.hid (blk_below BKy.out hb); replace BKr:=Lib.hid (blk_below BKr.out hb); replace BKo:=Lib.hid (blk_below BKo.out hb); replace HSB:=Lib.hid (own_below HSB.out hb); replace HRB:=Lib.hid (own_below HRB.out hb); replace HCW:=Lib.hid (HCW.out.trans (Chg.of_same hb)); replace Hu7:=Lib.hid (own_below Hu7.out hb); replace Hu9:=Lib.hid (own_below Hu9.out hb); replace HB:=Lib.hid (HB.out.trans (hb.mono HB.out.size)); have HY:=Lib.hid ht; have HC9:=Lib.hid HCW.out; have LY9:=Lib.hid (fun k hk=>Top_lt ht k hk); have HCY:=Lib.hid (Chg.refl (fun k=>k=gr ∨ u7.ownBlock=some k ∨ u9.ownBlock=some k ∨ w9.heap.size≤k) w9); clear t0 t1 t2 t3 t4 ft0 ft1 ft2 ft3 ft4; clear y0 y1 y2 y3 y4 fy0 fy1 fy2 fy3 fy4; clear r0 r1 r2 r3 r4 fr0 fr1 fr2 fr3 fr4; clear o0 o1 o2 o3 o4 fo0 fo1 fo2 fo3 fo4; obtain ⟨t0,t1,t2,t3,t4⟩:=cells5 BKt.out; obtain ⟨ft0,ft1,ft2,ft3,ft4⟩:=free5 BKt.out; obtain ⟨y0,y1,y2,y3,y4⟩:=cells5 BKy.out; obtain ⟨fy0,fy1,fy2,fy3,fy4⟩:=free5 BKy.out; obtain ⟨r0,r1,r2,r3,r4⟩:=cells5 BKr.out; obtain ⟨fr0,fr1,fr2,fr3,fr4⟩:=free5 BKr.out; obtain ⟨o0,o1,o2,o3,o4⟩:=cells5 BKo.out; obtain ⟨fo0,fo1,fo2,fo3,fo4⟩:=free5 BKo.out; clear ht hg hb; have T13:True:=trivial)
          |(clear T13; (with_reducible refine gate_builtin (b:=.append) (xs:=#[.tmp 70,.tmp 73]) rfl ?_); at_builtin; have hal:=below_alloc (Below.refl w9.heap.size w9) (.cells #[.int .i64 y.f0,.int .i64 y.f1,.string y.f2,.slice E3 y.f3.length h3,.slice E4 y.f4.length h4] 32); replace BKt:=Lib.hid (blk_below BKt.out hal); replace BKy:=Lib.hid (blk_below BKy.out hal); replace BKr:=Lib.hid (blk_below BKr.out hal); replace BKo:=Lib.hid (blk_below BKo.out hal); replace HSB:=Lib.hid (own_below HSB.out hal); replace HRB:=Lib.hid (own_below HRB.out hal); replace HCW:=Lib.hid (HCW.out.trans (Chg.of_same hal)); replace Hu7:=Lib.hid (own_below Hu7.out hal); replace Hu9:=Lib.hid (own_below Hu9.out hal); replace HCY:=Lib.hid (HCY.out.trans (Chg.of_same hal)); replace HB:=Lib.hid (HB.out.trans (hal.mono HB.out.size)); refine list_append_rd rfl _ _ 30 32 rfl 0 5 80 (.agg #[(.int .i64 0),(.int .i64 0),(.string ⟨#[]⟩),(.slice none 0 0),(.slice none 0 0)]) Tryz.underlying30 info32 rfl (by decide) u9 (p) (inner.take (p*5)) (some ⟨w9.heap.size,0,none⟩) 1 1 [.int .i64 y.f0,.int .i64 y.f1,.string y.f2,.slice E3 y.f3.length h3,.slice E4 y.f4.length h4] rfl rfl Hu9.out (Src_box w9 _ _ 5 rfl (by intro u hu; simp at hu; rcases hu with rfl|rfl|rfl|rfl|rfl<;>rfl)) (by unfold maxLen; omega) (by omega) (Nat.zero_le _) ?_; intro u10 wu10 ho hg hat; have QY10:=Lib.hid (fun (k:Nat) (hk:u10.ownBlock=some k)=>(hat.elim (fun e=>.inl (e ▸ hk)) (fun e=>.inr (by rw [e] at hk; rw [← Option.some.inj hk]; simp)):u9.ownBlock=some k ∨ w9.heap.size≤k)); have Lu10:=Lib.hid (fun (k:Nat) (hk:u10.ownBlock=some k)=>(hat.elim (fun e=>Lu9.out k (e ▸ hk)) (fun e=>by rw [e] at hk; rw [← Option.some.inj hk]; exact HCW.out.size):wr.heap.size≤k)); replace BKt:=Lib.hid (blk_grown BKt.out hg (fun e=>Nat.not_le.2 LTt.out (Lu9.out _ e.symm))); replace BKy:=Lib.hid (blk_grown BKy.out hg (fun e=>Nat.not_le.2 LTy.out (Lu9.out _ e.symm))); replace BKr:=Lib.hid (blk_grown BKr.out hg (fun e=>Nat.not_le.2 LTr.out (Lu9.out _ e.symm))); replace BKo:=Lib.hid (blk_grown BKo.out hg (fun e=>Nat.not_le.2 LTo.out (Lu9.out _ e.symm))); replace HSB:=Lib.hid (own_chg HSB.out (Chg.grown hg (fun k e=>e)) (fun k hk e=>Nat.not_le.2 (LB3.out k hk) (Lu9.out k e))); replace HRB:=Lib.hid (own_chg HRB.out (Chg.grown hg (fun k e=>e)) (fun k hk e=>Nat.not_le.2 (LB4.out k hk) (Lu9.out k e))); replace HCW:=Lib.hid (HCW.out.trans (Chg.grown hg (fun k e=>(.inr (Lu9.out k e):k=gr ∨ wr.heap.size≤k)))); replace Hu7:=Lib.hid (own_chg Hu7.out (Chg.grown hg (fun k e=>e)) (fun k hk e=>(own_two Hu7.out Hu9.out (by decide)) k hk e)); replace HCY:=Lib.hid (HCY.out.trans (Chg.grown hg (fun k e=>(.inr (.inr (.inl e)):k=gr ∨ u7.ownBlock=some k ∨ u9.ownBlock=some k ∨ w9.heap.size≤k)))); replace HB:=Lib.hid (HB.out.grown hg HB.out.size (fun k e=>Nat.le_trans HWW.out (Lu9.out k e))); have Hu10:=Lib.hid ho; clear t0 t1 t2 t3 t4 ft0 ft1 ft2 ft3 ft4; clear y0 y1 y2 y3 y4 fy0 fy1 fy2 fy3 fy4; clear r0 r1 r2 r3 r4 fr0 fr1 fr2 fr3 fr4; clear o0 o1 o2 o3 o4 fo0 fo1 fo2 fo3 fo4; obtain ⟨t0,t1,t2,t3,t4⟩:=cells5 BKt.out; obtain ⟨ft0,ft1,ft2,ft3,ft4⟩:=free5 BKt.out; obtain ⟨y0,y1,y2,y3,y4⟩:=cells5 BKy.out; obtain ⟨fy0,fy1,fy2,fy3,fy4⟩:=free5 BKy.out; obtain ⟨r0,r1,r2,r3,r4⟩:=cells5 BKr.out; obtain ⟨fr0,fr1,fr2,fr3,fr4⟩:=free5 BKr.out; obtain ⟨o0,o1,o2,o3,o4⟩:=cells5 BKo.out; obtain ⟨fo0,fo1,fo2,fo3,fo4⟩:=free5 BKo.out; clear ho hg hat Hu9; clear hal; have T14:True:=trivial))
       have hpd3:(p:Int)≤(d3:Int):=by omega
       have SO:Hid (∀ W:World,Chg (fun k=>k=gr ∨ wr.heap.size≤k) wr W→W.cell? ⟨gt,0,none⟩=some (.int .i64 x.f0)∧W.cell? ⟨gt,1,none⟩=some (.int .i64 x.f1)∧W.cell? ⟨gt,2,none⟩=some (.string x.f2)∧W.cell? ⟨go,3,none⟩=some (.slice B3 x.f3.length d3)∧W.cell? ⟨go,4,none⟩=some (.slice B4 x.f4.length d4)∧Chg (fun k=>k=gr ∨ wr.heap.size≤k) wr W):=fun W hW =>
        ⟨chg_cell hW TC0.out NT.out,chg_cell hW TC1.out NT.out,chg_cell hW TC2.out NT.out,chg_cell hW OC3.out NO.out,chg_cell hW OC4.out NO.out,hW⟩
       go_region_held3 (fun W=>W.cell? ⟨gt,0,none⟩=some (.int .i64 x.f0)∧W.cell? ⟨gt,1,none⟩=some (.int .i64 x.f1)∧W.cell? ⟨gt,2,none⟩=some (.string x.f2)∧W.cell? ⟨go,3,none⟩=some (.slice B3 x.f3.length d3)∧W.cell? ⟨go,4,none⟩=some (.slice B4 x.f4.length d4)∧Chg (fun k=>k=gr ∨ wr.heap.size≤k) wr W)
        ((refine SO.out _ ?_; first|exact HCW.out|exact HCW.out.trans (Chg.of_same (below_drew (Below.refl _ _)))|exact HCW.out.trans (((((Chg.set _ ⟨gr,0,none⟩ _ (.inl rfl)).trans (Chg.set _ ⟨gr,1,none⟩ _ (.inl rfl))).trans (Chg.set _ ⟨gr,2,none⟩ _ (.inl rfl))).trans (Chg.set _ ⟨gr,3,none⟩ _ (.inl rfl))).trans (Chg.set _ ⟨gr,4,none⟩ _ (.inl rfl)))))
        (first
         |(replace BKt:=Lib.hid (blk_below BKt.out (below_drew (Below.refl _ _))); replace BKy:=Lib.hid (blk_below BKy.out (below_drew (Below.refl _ _))); replace BKr:=Lib.hid (blk_below BKr.out (below_drew (Below.refl _ _))); replace BKo:=Lib.hid (blk_below BKo.out (below_drew (Below.refl _ _))); replace HSB:=Lib.hid (own_below HSB.out (below_drew (Below.refl _ _))); replace HRB:=Lib.hid (own_below HRB.out (below_drew (Below.refl _ _))); replace HCW:=Lib.hid (HCW.out.trans (Chg.of_same (below_drew (Below.refl _ _)))); replace Hu7:=Lib.hid (own_below Hu7.out (below_drew (Below.refl _ _))); replace Hu10:=Lib.hid (own_below Hu10.out (below_drew (Below.refl _ _))); replace HCY:=Lib.hid (HCY.out.trans (Chg.of_same (below_drew (Below.refl _ _)))); replace HB:=Lib.hid (HB.out.trans ((below_drew (Below.refl _ _)).mono HB.out.size)); refine step_append_rd rfl (.tmp 81) (.tmp 85) 22 9 rfl 0 1 16 (.string ⟨#[]⟩) Tryz.underlying22 info9 rfl (by decide) u7 (p+1) (((x.f3.map Value.string).take (p*1)) ++ [.string key]) _ (x.f3.length-p) _ ((x.f3.map Value.string).drop (p*1)) rfl rfl ?_ ?_ ?_ ?_ ?_ ?_; (focus (exact Hu7.out)); (focus (exact Src_tail HSB.out HP.out HON.out (fun h=>by simp [show ¬ (d3=p) by omega]))); (focus (unfold maxLen; omega)); (focus (omega)); (focus (exact Nat.zero_le _)); (intro u11 wu11 ho hg hat; have Lu11:=Lib.hid (fun (k:Nat) (hk:u11.ownBlock=some k)=>(hat.elim (fun e=>Lu7.out k (e ▸ hk)) (fun e=>by rw [e] at hk; rw [← Option.some.inj hk]; exact HCW.out.size):wr.heap.size≤k)); have QYu11:=Lib.hid (fun (k:Nat) (hk:u11.ownBlock=some k)=>(hat.elim (fun e=>.inl (e ▸ hk)) (fun e=>.inr (by rw [e] at hk; rw [← Option.some.inj hk]; exact HCY.out.size)):u7.ownBlock=some k ∨ w9.heap.size≤k)); (first|replace Hu12:=Lib.hid (own_chg Hu12.out (Chg.grown hg (fun k e=>e)) (fun k hk e=>(own_two Hu12.out Hu7.out (by decide)) k hk e))|replace Hu10:=Lib.hid (own_chg Hu10.out (Chg.grown hg (fun k e=>e)) (fun k hk e=>(own_two Hu10.out Hu7.out (by decide)) k hk e))); replace BKt:=Lib.hid (blk_grown BKt.out hg (fun e=>Nat.not_le.2 LTt.out (Lu7.out _ e.symm))); replace BKy:=Lib.hid (blk_grown BKy.out hg (fun e=>Nat.not_le.2 LTy.out (Lu7.out _ e.symm))); replace BKr:=Lib.hid (blk_grown BKr.out hg (fun e=>Nat.not_le.2 LTr.out (Lu7.out _ e.symm))); replace BKo:=Lib.hid (blk_grown BKo.out hg (fun e=>Nat.not_le.2 LTo.out (Lu7.out _ e.symm))); replace HSB:=Lib.hid (own_chg HSB.out (Chg.grown hg (fun k e=>e)) (fun k hk e=>Nat.not_le.2 (LB3.out k hk) (Lu7.out k e))); replace HRB:=Lib.hid (own_chg HRB.out (Chg.grown hg (fun k e=>e)) (fun k hk e=>Nat.not_le.2 (LB4.out k hk) (Lu7.out k e))); replace HCW:=Lib.hid (HCW.out.trans (Chg.grown hg (fun k e=>(.inr (Lu7.out k e):k=gr ∨ wr.heap.size≤k)))); replace HCY:=Lib.hid (HCY.out.trans (Chg.grown hg (fun k e=>(.inr (.inl e):k=gr ∨ u7.ownBlock=some k ∨ u9.ownBlock=some k ∨ w9.heap.size≤k)))); replace HB:=Lib.hid (HB.out.grown hg HB.out.size (fun k e=>Nat.le_trans HWW.out (Lu7.out k e))); have Hu11:=Lib.hid ho; clear t0 t1 t2 t3 t4 ft0 ft1 ft2 ft3 ft4; clear y0 y1 y2 y3 y4 fy0 fy1 fy2 fy3 fy4; clear r0 r1 r2 r3 r4 fr0 fr1 fr2 fr3 fr4; clear o0 o1 o2 o3 o4 fo0 fo1 fo2 fo3 fo4; obtain ⟨t0,t1,t2,t3,t4⟩:=cells5 BKt.out; obtain ⟨ft0,ft1,ft2,ft3,ft4⟩:=free5 BKt.out; obtain ⟨y0,y1,y2,y3,y4⟩:=cells5 BKy.out; obtain ⟨fy0,fy1,fy2,fy3,fy4⟩:=free5 BKy.out; obtain ⟨r0,r1,r2,r3,r4⟩:=cells5 BKr.out; obtain ⟨fr0,fr1,fr2,fr3,fr4⟩:=free5 BKr.out; obtain ⟨o0,o1,o2,o3,o4⟩:=cells5 BKo.out; obtain ⟨fo0,fo1,fo2,fo3,fo4⟩:=free5 BKo.out; obtain ⟨gqu11,cqu11,rfl⟩:=own_form ho (by omega); clear ho hg hat))
         |(refine step_append_rd rfl (.tmp 87) (.tmp 91) 30 32 rfl 0 5 80 (.agg #[(.int .i64 0),(.int .i64 0),(.string ⟨#[]⟩),(.slice none 0 0),(.slice none 0 0)]) Tryz.underlying30 info32 rfl (by decide) u10 (p+1) (inner.take (p*5) ++ [.int .i64 y.f0,.int .i64 y.f1,.string y.f2,.slice E3 y.f3.length h3,.slice E4 y.f4.length h4]) _ (x.f4.length-p) _ (inner.drop (p*5)) rfl rfl ?_ ?_ ?_ ?_ ?_ ?_; (focus (exact Hu10.out)); (focus (exact Src_tail HRB.out HP4.out HONN.out (fun h=>by simp [show ¬ (d4=p) by omega]))); (focus (unfold maxLen; omega)); (focus (omega)); (focus (exact Nat.zero_le _)); (intro u12 wu12 ho hg hat; have Lu12:=Lib.hid (fun (k:Nat) (hk:u12.ownBlock=some k)=>(hat.elim (fun e=>Lu10.out k (e ▸ hk)) (fun e=>by rw [e] at hk; rw [← Option.some.inj hk]; exact HCW.out.size):wr.heap.size≤k)); have QYu12:=Lib.hid (fun (k:Nat) (hk:u12.ownBlock=some k)=>(hat.elim (fun e=>QY10.out k (e ▸ hk)) (fun e=>.inr (by rw [e] at hk; rw [← Option.some.inj hk]; exact HCY.out.size)):u9.ownBlock=some k ∨ w9.heap.size≤k)); (first|replace Hu11:=Lib.hid (own_chg Hu11.out (Chg.grown hg (fun k e=>e)) (fun k hk e=>(own_two Hu11.out Hu10.out (by decide)) k hk e))|replace Hu7:=Lib.hid (own_chg Hu7.out (Chg.grown hg (fun k e=>e)) (fun k hk e=>(own_two Hu7.out Hu10.out (by decide)) k hk e))); replace BKt:=Lib.hid (blk_grown BKt.out hg (fun e=>Nat.not_le.2 LTt.out (Lu10.out _ e.symm))); replace BKy:=Lib.hid (blk_grown BKy.out hg (fun e=>Nat.not_le.2 LTy.out (Lu10.out _ e.symm))); replace BKr:=Lib.hid (blk_grown BKr.out hg (fun e=>Nat.not_le.2 LTr.out (Lu10.out _ e.symm))); replace BKo:=Lib.hid (blk_grown BKo.out hg (fun e=>Nat.not_le.2 LTo.out (Lu10.out _ e.symm))); replace HSB:=Lib.hid (own_chg HSB.out (Chg.grown hg (fun k e=>e)) (fun k hk e=>Nat.not_le.2 (LB3.out k hk) (Lu10.out k e))); replace HRB:=Lib.hid (own_chg HRB.out (Chg.grown hg (fun k e=>e)) (fun k hk e=>Nat.not_le.2 (LB4.out k hk) (Lu10.out k e))); replace HCW:=Lib.hid (HCW.out.trans (Chg.grown hg (fun k e=>(.inr (Lu10.out k e):k=gr ∨ wr.heap.size≤k)))); replace HCY:=Lib.hid (HCY.out.trans (Chg.grown hg (fun k e=>((QY10.out k e).elim (fun q=>.inr (.inr (.inl q))) (fun q=>.inr (.inr (.inr q))):k=gr ∨ u7.ownBlock=some k ∨ u9.ownBlock=some k ∨ w9.heap.size≤k)))); replace HB:=Lib.hid (HB.out.grown hg HB.out.size (fun k e=>Nat.le_trans HWW.out (Lu10.out k e))); have Hu12:=Lib.hid ho; clear t0 t1 t2 t3 t4 ft0 ft1 ft2 ft3 ft4; clear y0 y1 y2 y3 y4 fy0 fy1 fy2 fy3 fy4; clear r0 r1 r2 r3 r4 fr0 fr1 fr2 fr3 fr4; clear o0 o1 o2 o3 o4 fo0 fo1 fo2 fo3 fo4; obtain ⟨t0,t1,t2,t3,t4⟩:=cells5 BKt.out; obtain ⟨ft0,ft1,ft2,ft3,ft4⟩:=free5 BKt.out; obtain ⟨y0,y1,y2,y3,y4⟩:=cells5 BKy.out; obtain ⟨fy0,fy1,fy2,fy3,fy4⟩:=free5 BKy.out; obtain ⟨r0,r1,r2,r3,r4⟩:=cells5 BKr.out; obtain ⟨fr0,fr1,fr2,fr3,fr4⟩:=free5 BKr.out; obtain ⟨o0,o1,o2,o3,o4⟩:=cells5 BKo.out; obtain ⟨fo0,fo1,fo2,fo3,fo4⟩:=free5 BKo.out; obtain ⟨gqu12,cqu12,rfl⟩:=own_form ho (by omega); clear ho hg hat)))
       all_goals go_wp2
       all_goals
        rw [HV.out p HI.out]
        have hlx:=HL.out
        have hgrl:=LTr.out
        obtain ⟨hn1,hn2,hn3,hn4⟩:=nd3_inv HT4.out.2.2
        have hyo:OT w9 y [.int .i64 y.f0,.int .i64 y.f1,.string y.f2,.slice E3 y.f3.length h3,.slice E4 y.f4.length h4] ((topFp (.slice E3 y.f3.length h3) (.slice E4 y.f4.length h4) gss)):=(OT_iff _ _ _ _).2 ⟨_,_,gss,rfl,HY.out.1,HY.out.2.1,rfl⟩
        have hin:∀ k,k ∈ fss.flatten→k ∈ topFp (.slice B3 x.f3.length d3) (.slice B4 x.f4.length d4) fss:=fun k hk=>by simp only [topFp,List.mem_append]; exact .inr (.inr hk)
        have hflt:∀ k ∈ fss.flatten,k<wr.heap.size∧gr<k∧w.heap.size≤k:=fun k hk=>⟨HTLT.out k (hin k hk),DrHT.out k (hin k hk),GEHT.out k (hin k hk)⟩
        have hI3:∀ j (h:j<x.f4.length) f,fss[j]?=some f→OT w9 x.f4[j] ((inner.drop (j*5)).take 5) f:=fun j h f hf=>OT_chg HC9.out _ _ _ (HI3.out j h f hf) (fun k hk e=>by
         have hq:=hflt k (mem_flat hf hk)
         rcases e with e|e<;>omega)
        have h7:∀ k,u7.ownBlock=some k→wr.heap.size≤k:=Lu7.out
        have h9:∀ k,u9.ownBlock=some k→wr.heap.size≤k:=Lu9.out
        have hkeys:SRow wu12 (Value.slice (some ⟨gqu11,0,none⟩) (p+1+(x.f3.length-p)) cqu11) (x.f3.take p ++ key::x.f3.drop p):=by
         have e1:(x.f3.take p ++ key::x.f3.drop p).length=p+1+(x.f3.length-p):=by rw [List.length_append,List.length_cons,List.length_take,List.length_drop]; omega
         have e2:(x.f3.take p ++ key::x.f3.drop p).map Value.string=(((x.f3.map Value.string).take (p*1)) ++ [Value.string key]) ++ (x.f3.map Value.string).drop (p*1):=by
          rw [List.map_append,List.map_cons,List.map_take,List.map_drop,Nat.mul_one,List.append_assoc,List.singleton_append]
         unfold SRow
         rw [e1,e2]
         exact Hu11.out
        have hkids:ORow wu12 (Value.slice (some ⟨gqu12,0,none⟩) (p+1+(x.f4.length-p)) cqu12) (x.f4.take p ++ y::x.f4.drop p) (fss.take p ++ (topFp (.slice E3 y.f3.length h3) (.slice E4 y.f4.length h4) gss)::fss.drop p):=ORow_ins HI2.out HRB.out.1 hI3 hyo rfl hp4 HCY.out (fun k hk e=>by
          have hq:=hflt k hk
          have hcs:=HC9.out.size
          rcases e with e|e|e|e
          ·omega
          ·have:=h7 k e; omega
          ·have:=h9 k e; omega
          ·omega) (fun k hk e=>by
          have hq:=GEHY.out k hk
          rcases e with e|e|e|e
          ·omega
          ·have:=DY7.out k e k hk; omega
          ·have:=DY9.out k e k hk; omega
          ·have:=LY9.out k hk; omega) (by
          have hu12:=Hu12.out
          rw [show p+1+(x.f4.length-p)=x.f4.length+1 by omega] at hu12
          rw [show p+1+(x.f4.length-p)=x.f4.length+1 by omega]
          exact hu12)
        have hmem:∀ k,k ∈ (fss.take p ++ (topFp (.slice E3 y.f3.length h3) (.slice E4 y.f4.length h4) gss)::fss.drop p).flatten→(k<wr.heap.size∧gr<k∧w.heap.size≤k) ∨ k ∈ (topFp (.slice E3 y.f3.length h3) (.slice E4 y.f4.length h4) gss):=fun k hk=>(ins_mem hk).elim (fun h=>.inl (hflt k h)) .inr
        have h34:∀ k,(Value.slice (some ⟨gqu11,0,none⟩) (p+1+(x.f3.length-p)) cqu11).ownBlock=some k→(Value.slice (some ⟨gqu12,0,none⟩) (p+1+(x.f4.length-p)) cqu12).ownBlock ≠ some k:=fun k hk=>own_two Hu11.out Hu12.out (by decide) k hk
        have h3F:∀ k,(Value.slice (some ⟨gqu11,0,none⟩) (p+1+(x.f3.length-p)) cqu11).ownBlock=some k→k ∉ (fss.take p ++ (topFp (.slice E3 y.f3.length h3) (.slice E4 y.f4.length h4) gss)::fss.drop p).flatten:=fun k hk hm=>by
         have h1:=Lu11.out k hk
         rcases hmem k hm with h|h
         ·omega
         ·rcases QYu11.out k hk with e|e
          ·have:=DY7.out k e k h; omega
          ·have:=LY9.out k h; omega
        have h4F:∀ k,(Value.slice (some ⟨gqu12,0,none⟩) (p+1+(x.f4.length-p)) cqu12).ownBlock=some k→k ∉ (fss.take p ++ (topFp (.slice E3 y.f3.length h3) (.slice E4 y.f4.length h4) gss)::fss.drop p).flatten:=fun k hk hm=>by
         have h1:=Lu12.out k hk
         rcases hmem k hm with h|h
         ·omega
         ·rcases QYu12.out k hk with e|e
          ·have:=DY9.out k e k h; omega
          ·have:=LY9.out k h; omega
        have hndF:(fss.take p ++ (topFp (.slice E3 y.f3.length h3) (.slice E4 y.f4.length h4) gss)::fss.drop p).flatten.Nodup:=ins_nodup p hn4 HY.out.2.2 (fun k hk hm=>by have h1:=GEHY.out k hk; have:=(hflt k hm).1; omega)
        have HTF:=Lib.hid (show Top wu12 (Value.slice (some ⟨gqu11,0,none⟩) (p+1+(x.f3.length-p)) cqu11) (Value.slice (some ⟨gqu12,0,none⟩) (p+1+(x.f4.length-p)) cqu12) ⟨x.f0,x.f1,x.f2,x.f3.take p ++ key::x.f3.drop p,x.f4.take p ++ y::x.f4.drop p⟩ (fss.take p ++ (topFp (.slice E3 y.f3.length h3) (.slice E4 y.f4.length h4) gss)::fss.drop p) from ⟨hkeys,hkids,nd3 h34 h3F h4F hndF⟩)
        have hall:∀ k ∈ topFp (Value.slice (some ⟨gqu11,0,none⟩) (p+1+(x.f3.length-p)) cqu11) (Value.slice (some ⟨gqu12,0,none⟩) (p+1+(x.f4.length-p)) cqu12) (fss.take p ++ (topFp (.slice E3 y.f3.length h3) (.slice E4 y.f4.length h4) gss)::fss.drop p),gr<k∧w.heap.size≤k:=fun k hk=>by
         have hww:=HWW.out
         simp only [topFp,List.mem_append,mem_own] at hk
         rcases hk with hk|hk|hk
         ·have:=Lu11.out k hk; omega
         ·have:=Lu12.out k hk; omega
         ·rcases hmem k hk with h|h
          ·exact ⟨h.2.1,h.2.2⟩
          ·have:=GEHY.out k h; omega
        have HRF:=Lib.hid (fun k hk=>(hall k hk).1)
        have HGF:=Lib.hid (fun k hk=>(hall k hk).2)
        have HBF:=HB
        exact bodyPost_ret (v:=.agg #[.int .i64 x.f0,.int .i64 x.f1,.string x.f2,.slice (some ⟨gqu11,0,none⟩) (p+1+(x.f3.length-p)) cqu11,.slice (some ⟨gqu12,0,none⟩) (p+1+(x.f4.length-p)) cqu12]) (by simp [results,Tryz.results54,go_sem,r0,r1,r2,r3,r4,fr0,fr1,fr2,fr3,fr4]) rfl
         ⟨_,_,rfl,_,Top_chg (S:=fun k=>k=gr) HTF.out (((((chg_put _ gr 0 _).trans (chg_put _ gr 1 _)).trans (chg_put _ gr 2 _)).trans (chg_put _ gr 3 _)).trans (chg_put _ gr 4 _)) (fun k hk e=>Nat.ne_of_gt (HRF.out k hk) e),HGF.out,((((HBF.out.setCell (p:=⟨gr,0,none⟩) GEr.out _).setCell (p:=⟨gr,1,none⟩) GEr.out _).setCell (p:=⟨gr,2,none⟩) GEr.out _).setCell (p:=⟨gr,3,none⟩) GEr.out _).setCell (p:=⟨gr,4,none⟩) GEr.out _⟩
     ·skip
      have hlti:¬ (p:Int)<(x.f3.length:Int):=by omega
      have HI:=Lib.hid (insAt_stop HNA.out HK.out hp (fun h=>absurd h hlt))
      have HP:Hid (p≤x.f3.length):=hp
      have HP4:Hid (p≤x.f4.length):=by show p≤_; have:=HL.out; omega
      have hp3:=HP.out
      have hp4:=HP4.out
      have hpd:(p:Int)≤(d3:Int):=by omega
      have hpd4:(p:Int)≤(d4:Int):=by omega
      have HON:Hid (∀ u ∈ x.f3.map Value.string,u.oneCell'=true):=fun u hu=>by obtain ⟨q,_,rfl⟩:=List.mem_map.1 hu; rfl
      obtain ⟨inner,hi1,hi2,hi3⟩:=HT.out.2.1
      have HONN:=Lib.hid (row_one hi1 hi2 hi3)
      have HSB:=Lib.hid HT.out.1
      have HRB:=Lib.hid hi1
      have HI2:=Lib.hid hi2
      have HI3:=Lib.hid hi3
      have HCW:Hid (Chg (fun k=>k=gr ∨ wr.heap.size≤k) wr wr):=Chg.refl _ _
      have HWW:Hid (w.heap.size≤wr.heap.size):=HB.out.size
      have LB3:Hid (∀ k,(Value.slice B3 x.f3.length d3).ownBlock=some k→k<wr.heap.size):=fun k hk=>(HT.out.1.lt k hk).2
      have LB4:Hid (∀ k,(Value.slice B4 x.f4.length d4).ownBlock=some k→k<wr.heap.size):=fun k hk=>(hi1.lt k hk).2
      have LTt:Hid (gt<wr.heap.size):=blk_lt BKt.out
      have LTy:Hid (gy<wr.heap.size):=blk_lt BKy.out
      have LTr:Hid (gr<wr.heap.size):=blk_lt BKr.out
      have LTo:Hid (go<wr.heap.size):=blk_lt BKo.out
      have NT:Hid (¬ (gt=gr ∨ wr.heap.size≤gt)):=fun e=>e.elim (fun e=>Nat.ne_of_lt Ltr.out e) (fun e=>Nat.not_le.2 LTt.out e)
      have NO:Hid (¬ (go=gr ∨ wr.heap.size≤go)):=fun e=>e.elim (fun e=>Nat.ne_of_gt Lro.out e) (fun e=>Nat.not_le.2 LTo.out e)
      have TC0:=Lib.hid t0
      have TC1:=Lib.hid t1
      have TC2:=Lib.hid t2
      have OC3:=Lib.hid o3
      have OC4:=Lib.hid o4
      have HT4:=Lib.hid HT.out
      have HTLT:=Lib.hid (Top_lt HT.out)
      clear HT hi1 hi2 hi3
      go_wp2_with (first
         |(clear T7; (with_reducible refine gate_dst (N:=54) rfl ?_); refine lit0_event rfl (N:=54) rfl (t:=9) 1 (by first|(go_simp; done)|(go_simp; rfl)) ?_; intro u5 wu5 ho hat hb; have Lu5:=Lib.hid (fun (k:Nat) (hk:u5.ownBlock=some k)=>(by rw [hat] at hk; rw [← Option.some.inj hk]; exact HCW.out.size:wr.heap.size≤k)); replace BKt:=Lib.hid (blk_below BKt.out hb); replace BKy:=Lib.hid (blk_below BKy.out hb); replace BKr:=Lib.hid (blk_below BKr.out hb); replace BKo:=Lib.hid (blk_below BKo.out hb); replace HSB:=Lib.hid (own_below HSB.out hb); replace HRB:=Lib.hid (own_below HRB.out hb); replace HCW:=Lib.hid (HCW.out.trans (Chg.of_same hb)); replace HB:=Lib.hid (HB.out.trans (hb.mono HB.out.size)); have Hu5:=Lib.hid (own_weaken ho (Nat.zero_le _)); clear t0 t1 t2 t3 t4 ft0 ft1 ft2 ft3 ft4; clear y0 y1 y2 y3 y4 fy0 fy1 fy2 fy3 fy4; clear r0 r1 r2 r3 r4 fr0 fr1 fr2 fr3 fr4; clear o0 o1 o2 o3 o4 fo0 fo1 fo2 fo3 fo4; obtain ⟨t0,t1,t2,t3,t4⟩:=cells5 BKt.out; obtain ⟨ft0,ft1,ft2,ft3,ft4⟩:=free5 BKt.out; obtain ⟨y0,y1,y2,y3,y4⟩:=cells5 BKy.out; obtain ⟨fy0,fy1,fy2,fy3,fy4⟩:=free5 BKy.out; obtain ⟨r0,r1,r2,r3,r4⟩:=cells5 BKr.out; obtain ⟨fr0,fr1,fr2,fr3,fr4⟩:=free5 BKr.out; obtain ⟨o0,o1,o2,o3,o4⟩:=cells5 BKo.out; obtain ⟨fo0,fo1,fo2,fo3,fo4⟩:=free5 BKo.out; clear ho hat hb; have T8:True:=trivial)
         |(clear T8; (with_reducible refine gate_builtin (b:=.append) (xs:=#[.tmp 54,.tmp 58]) rfl ?_); at_builtin; refine list_append_rd rfl _ _ 22 9 rfl 0 1 16 (.string ⟨#[]⟩) Tryz.underlying22 info9 rfl (by decide) u5 (0) [] B3 p d3 ((x.f3.map Value.string).take (p*1)) rfl rfl Hu5.out (Src_head HSB.out HP.out HON.out) (by unfold maxLen; omega) (by omega) (Nat.zero_le _) ?_; intro u6 wu6 ho hg hat; rw [Nat.zero_add,List.nil_append] at ho; have Lu6:=Lib.hid (fun (k:Nat) (hk:u6.ownBlock=some k)=>(hat.elim (fun e=>Lu5.out k (e ▸ hk)) (fun e=>by rw [e] at hk; rw [← Option.some.inj hk]; exact HCW.out.size):wr.heap.size≤k)); replace BKt:=Lib.hid (blk_grown BKt.out hg (fun e=>Nat.not_le.2 LTt.out (Lu5.out _ e.symm))); replace BKy:=Lib.hid (blk_grown BKy.out hg (fun e=>Nat.not_le.2 LTy.out (Lu5.out _ e.symm))); replace BKr:=Lib.hid (blk_grown BKr.out hg (fun e=>Nat.not_le.2 LTr.out (Lu5.out _ e.symm))); replace BKo:=Lib.hid (blk_grown BKo.out hg (fun e=>Nat.not_le.2 LTo.out (Lu5.out _ e.symm))); replace HSB:=Lib.hid (own_chg HSB.out (Chg.grown hg (fun k e=>e)) (fun k hk e=>Nat.not_le.2 (LB3.out k hk) (Lu5.out k e))); replace HRB:=Lib.hid (own_chg HRB.out (Chg.grown hg (fun k e=>e)) (fun k hk e=>Nat.not_le.2 (LB4.out k hk) (Lu5.out k e))); replace HCW:=Lib.hid (HCW.out.trans (Chg.grown hg (fun k e=>(.inr (Lu5.out k e):k=gr ∨ wr.heap.size≤k)))); replace HB:=Lib.hid (HB.out.grown hg HB.out.size (fun k e=>Nat.le_trans HWW.out (Lu5.out k e))); have Hu6:=Lib.hid ho; clear t0 t1 t2 t3 t4 ft0 ft1 ft2 ft3 ft4; clear y0 y1 y2 y3 y4 fy0 fy1 fy2 fy3 fy4; clear r0 r1 r2 r3 r4 fr0 fr1 fr2 fr3 fr4; clear o0 o1 o2 o3 o4 fo0 fo1 fo2 fo3 fo4; obtain ⟨t0,t1,t2,t3,t4⟩:=cells5 BKt.out; obtain ⟨ft0,ft1,ft2,ft3,ft4⟩:=free5 BKt.out; obtain ⟨y0,y1,y2,y3,y4⟩:=cells5 BKy.out; obtain ⟨fy0,fy1,fy2,fy3,fy4⟩:=free5 BKy.out; obtain ⟨r0,r1,r2,r3,r4⟩:=cells5 BKr.out; obtain ⟨fr0,fr1,fr2,fr3,fr4⟩:=free5 BKr.out; obtain ⟨o0,o1,o2,o3,o4⟩:=cells5 BKo.out; obtain ⟨fo0,fo1,fo2,fo3,fo4⟩:=free5 BKo.out; clear ho hg hat Hu5; have T9:True:=trivial)
         |(clear T9; (with_reducible refine gate_builtin (b:=.append) (xs:=#[.tmp 60,.tmp 62]) rfl ?_); at_builtin; have hal:=below_alloc (Below.refl wu6.heap.size wu6) (.cells #[.string key] 9); replace BKt:=Lib.hid (blk_below BKt.out hal); replace BKy:=Lib.hid (blk_below BKy.out hal); replace BKr:=Lib.hid (blk_below BKr.out hal); replace BKo:=Lib.hid (blk_below BKo.out hal); replace HSB:=Lib.hid (own_below HSB.out hal); replace HRB:=Lib.hid (own_below HRB.out hal); replace HCW:=Lib.hid (HCW.out.trans (Chg.of_same hal)); replace Hu6:=Lib.hid (own_below Hu6.out hal); replace HB:=Lib.hid (HB.out.trans (hal.mono HB.out.size)); refine list_append_rd rfl _ _ 22 9 rfl 0 1 16 (.string ⟨#[]⟩) Tryz.underlying22 info9 rfl (by decide) u6 (p) ((x.f3.map Value.string).take (p*1)) (some ⟨wu6.heap.size,0,none⟩) 1 1 [.string key] rfl rfl Hu6.out (Src_box wu6 _ _ 1 rfl (by intro u hu; rw [List.mem_singleton.1 hu]; rfl)) (by unfold maxLen; omega) (by omega) (Nat.zero_le _) ?_; intro u7 wu7 ho hg hat; have Lu7:=Lib.hid (fun (k:Nat) (hk:u7.ownBlock=some k)=>(hat.elim (fun e=>Lu6.out k (e ▸ hk)) (fun e=>by rw [e] at hk; rw [← Option.some.inj hk]; exact HCW.out.size):wr.heap.size≤k)); replace BKt:=Lib.hid (blk_grown BKt.out hg (fun e=>Nat.not_le.2 LTt.out (Lu6.out _ e.symm))); replace BKy:=Lib.hid (blk_grown BKy.out hg (fun e=>Nat.not_le.2 LTy.out (Lu6.out _ e.symm))); replace BKr:=Lib.hid (blk_grown BKr.out hg (fun e=>Nat.not_le.2 LTr.out (Lu6.out _ e.symm))); replace BKo:=Lib.hid (blk_grown BKo.out hg (fun e=>Nat.not_le.2 LTo.out (Lu6.out _ e.symm))); replace HSB:=Lib.hid (own_chg HSB.out (Chg.grown hg (fun k e=>e)) (fun k hk e=>Nat.not_le.2 (LB3.out k hk) (Lu6.out k e))); replace HRB:=Lib.hid (own_chg HRB.out (Chg.grown hg (fun k e=>e)) (fun k hk e=>Nat.not_le.2 (LB4.out k hk) (Lu6.out k e))); replace HCW:=Lib.hid (HCW.out.trans (Chg.grown hg (fun k e=>(.inr (Lu6.out k e):k=gr ∨ wr.heap.size≤k)))); replace HB:=Lib.hid (HB.out.grown hg HB.out.size (fun k e=>Nat.le_trans HWW.out (Lu6.out k e))); have Hu7:=Lib.hid ho; clear t0 t1 t2 t3 t4 ft0 ft1 ft2 ft3 ft4; clear y0 y1 y2 y3 y4 fy0 fy1 fy2 fy3 fy4; clear r0 r1 r2 r3 r4 fr0 fr1 fr2 fr3 fr4; clear o0 o1 o2 o3 o4 fo0 fo1 fo2 fo3 fo4; obtain ⟨t0,t1,t2,t3,t4⟩:=cells5 BKt.out; obtain ⟨ft0,ft1,ft2,ft3,ft4⟩:=free5 BKt.out; obtain ⟨y0,y1,y2,y3,y4⟩:=cells5 BKy.out; obtain ⟨fy0,fy1,fy2,fy3,fy4⟩:=free5 BKy.out; obtain ⟨r0,r1,r2,r3,r4⟩:=cells5 BKr.out; obtain ⟨fr0,fr1,fr2,fr3,fr4⟩:=free5 BKr.out; obtain ⟨o0,o1,o2,o3,o4⟩:=cells5 BKo.out; obtain ⟨fo0,fo1,fo2,fo3,fo4⟩:=free5 BKo.out; clear ho hg hat Hu6; clear hal; have T10:True:=trivial)
         |(clear T10; (with_reducible refine gate_dst (N:=64) rfl ?_); refine lit0_event rfl (N:=64) rfl (t:=32) 5 (by first|(go_simp; done)|(go_simp; rfl)) ?_; intro u8 wu8 ho hat hb; have Lu8:=Lib.hid (fun (k:Nat) (hk:u8.ownBlock=some k)=>(by rw [hat] at hk; rw [← Option.some.inj hk]; exact HCW.out.size:wr.heap.size≤k)); replace BKt:=Lib.hid (blk_below BKt.out hb); replace BKy:=Lib.hid (blk_below BKy.out hb); replace BKr:=Lib.hid (blk_below BKr.out hb); replace BKo:=Lib.hid (blk_below BKo.out hb); replace HSB:=Lib.hid (own_below HSB.out hb); replace HRB:=Lib.hid (own_below HRB.out hb); replace HCW:=Lib.hid (HCW.out.trans (Chg.of_same hb)); replace Hu7:=Lib.hid (own_below Hu7.out hb); replace HB:=Lib.hid (HB.out.trans (hb.mono HB.out.size)); have Hu8:=Lib.hid (own_weaken ho (Nat.zero_le _)); clear t0 t1 t2 t3 t4 ft0 ft1 ft2 ft3 ft4; clear y0 y1 y2 y3 y4 fy0 fy1 fy2 fy3 fy4; clear r0 r1 r2 r3 r4 fr0 fr1 fr2 fr3 fr4; clear o0 o1 o2 o3 o4 fo0 fo1 fo2 fo3 fo4; obtain ⟨t0,t1,t2,t3,t4⟩:=cells5 BKt.out; obtain ⟨ft0,ft1,ft2,ft3,ft4⟩:=free5 BKt.out; obtain ⟨y0,y1,y2,y3,y4⟩:=cells5 BKy.out; obtain ⟨fy0,fy1,fy2,fy3,fy4⟩:=free5 BKy.out; obtain ⟨r0,r1,r2,r3,r4⟩:=cells5 BKr.out; obtain ⟨fr0,fr1,fr2,fr3,fr4⟩:=free5 BKr.out; obtain ⟨o0,o1,o2,o3,o4⟩:=cells5 BKo.out; obtain ⟨fo0,fo1,fo2,fo3,fo4⟩:=free5 BKo.out; clear ho hat hb; have T11:True:=trivial)
         |(clear T11; (with_reducible refine gate_builtin (b:=.append) (xs:=#[.tmp 64,.tmp 68]) rfl ?_); at_builtin; refine list_append_rd rfl _ _ 30 32 rfl 0 5 80 (.agg #[(.int .i64 0),(.int .i64 0),(.string ⟨#[]⟩),(.slice none 0 0),(.slice none 0 0)]) Tryz.underlying30 info32 rfl (by decide) u8 (0) [] B4 p d4 (inner.take (p*5)) rfl rfl Hu8.out (Src_head HRB.out HP4.out HONN.out) (by unfold maxLen; omega) (by omega) (Nat.zero_le _) ?_; intro u9 wu9 ho hg hat; rw [Nat.zero_add,List.nil_append] at ho; have Lu9:=Lib.hid (fun (k:Nat) (hk:u9.ownBlock=some k)=>(hat.elim (fun e=>Lu8.out k (e ▸ hk)) (fun e=>by rw [e] at hk; rw [← Option.some.inj hk]; exact HCW.out.size):wr.heap.size≤k)); replace BKt:=Lib.hid (blk_grown BKt.out hg (fun e=>Nat.not_le.2 LTt.out (Lu8.out _ e.symm))); replace BKy:=Lib.hid (blk_grown BKy.out hg (fun e=>Nat.not_le.2 LTy.out (Lu8.out _ e.symm))); replace BKr:=Lib.hid (blk_grown BKr.out hg (fun e=>Nat.not_le.2 LTr.out (Lu8.out _ e.symm))); replace BKo:=Lib.hid (blk_grown BKo.out hg (fun e=>Nat.not_le.2 LTo.out (Lu8.out _ e.symm))); replace HSB:=Lib.hid (own_chg HSB.out (Chg.grown hg (fun k e=>e)) (fun k hk e=>Nat.not_le.2 (LB3.out k hk) (Lu8.out k e))); replace HRB:=Lib.hid (own_chg HRB.out (Chg.grown hg (fun k e=>e)) (fun k hk e=>Nat.not_le.2 (LB4.out k hk) (Lu8.out k e))); replace HCW:=Lib.hid (HCW.out.trans (Chg.grown hg (fun k e=>(.inr (Lu8.out k e):k=gr ∨ wr.heap.size≤k)))); replace Hu7:=Lib.hid (own_chg Hu7.out (Chg.grown hg (fun k e=>e)) (fun k hk e=>(own_two Hu7.out Hu8.out (by decide)) k hk e)); replace HB:=Lib.hid (HB.out.grown hg HB.out.size (fun k e=>Nat.le_trans HWW.out (Lu8.out k e))); have Hu9:=Lib.hid ho; clear t0 t1 t2 t3 t4 ft0 ft1 ft2 ft3 ft4; clear y0 y1 y2 y3 y4 fy0 fy1 fy2 fy3 fy4; clear r0 r1 r2 r3 r4 fr0 fr1 fr2 fr3 fr4; clear o0 o1 o2 o3 o4 fo0 fo1 fo2 fo3 fo4; obtain ⟨t0,t1,t2,t3,t4⟩:=cells5 BKt.out; obtain ⟨ft0,ft1,ft2,ft3,ft4⟩:=free5 BKt.out; obtain ⟨y0,y1,y2,y3,y4⟩:=cells5 BKy.out; obtain ⟨fy0,fy1,fy2,fy3,fy4⟩:=free5 BKy.out; obtain ⟨r0,r1,r2,r3,r4⟩:=cells5 BKr.out; obtain ⟨fr0,fr1,fr2,fr3,fr4⟩:=free5 BKr.out; obtain ⟨o0,o1,o2,o3,o4⟩:=cells5 BKo.out; obtain ⟨fo0,fo1,fo2,fo3,fo4⟩:=free5 BKo.out; clear ho hg hat Hu8; have T12:True:=trivial)
         |(clear T12; go_at_call 113; refine (HCY.out _ _ _ _ _ (Kd.C_below P3.out HB.out) q3 (Kd.C_below P4.out HB.out) q4).mono ?_; rintro e w9 ⟨z3,z4,gss,rfl,ht,hg,hb⟩; obtain ⟨E3,h3,rfl,j3,n3⟩:=SRow_C ht.1; obtain ⟨E4,h4,rfl,j4,n4⟩:=ORow_C ht.2.1; clear n3 n4; have GEHY:=Lib.hid (fun k hk=>(Nat.le_trans HCW.out.size (hg k hk):wr.heap.size≤k)); have DY7:=Lib.hid (fun k hk j hj=>Nat.lt_of_lt_of_le (Hu7.out.lt k hk).2 (hg j hj)); have DY9:=Lib.hid (fun k hk j hj=>Nat.lt_of_lt_of_le (Hu9.out.lt k hk).2 (hg j hj)); replace BKt:=Lib.hid (blk_below BKt.out hb); replace BKy:=Lib.hid (blk_below BKy.out hb); replace BKr:=Lib.hid (blk_below BKr.out hb); replace BKo:=Lib.hid (blk_below BKo.out hb); replace HSB:=Lib.hid (own_below HSB.out hb); replace HRB:=Lib.hid (own_below HRB.out hb); replace HCW:=Lib.hid (HCW.out.trans (Chg.of_same hb)); replace Hu7:=Lib.hid (own_below Hu7.out hb); replace Hu9:=Lib.hid (own_below Hu9.out hb); replace HB:=Lib.hid (HB.out.trans (hb.mono HB.out.size)); have HY:=Lib.hid ht; have HC9:=Lib.hid HCW.out; have LY9:=Lib.hid (fun k hk=>Top_lt ht k hk); have HCY:=Lib.hid (Chg.refl (fun k=>k=gr ∨ u7.ownBlock=some k ∨ u9.ownBlock=some k ∨ w9.heap.size≤k) w9); clear t0 t1 t2 t3 t4 ft0 ft1 ft2 ft3 ft4; clear y0 y1 y2 y3 y4 fy0 fy1 fy2 fy3 fy4; clear r0 r1 r2 r3 r4 fr0 fr1 fr2 fr3 fr4; clear o0 o1 o2 o3 o4 fo0 fo1 fo2 fo3 fo4; obtain ⟨t0,t1,t2,t3,t4⟩:=cells5 BKt.out; obtain ⟨ft0,ft1,ft2,ft3,ft4⟩:=free5 BKt.out; obtain ⟨y0,y1,y2,y3,y4⟩:=cells5 BKy.out; obtain ⟨fy0,fy1,fy2,fy3,fy4⟩:=free5 BKy.out; obtain ⟨r0,r1,r2,r3,r4⟩:=cells5 BKr.out; obtain ⟨fr0,fr1,fr2,fr3,fr4⟩:=free5 BKr.out; obtain ⟨o0,o1,o2,o3,o4⟩:=cells5 BKo.out; obtain ⟨fo0,fo1,fo2,fo3,fo4⟩:=free5 BKo.out; clear ht hg hb; have T13:True:=trivial)
         |(clear T13; (with_reducible refine gate_builtin (b:=.append) (xs:=#[.tmp 70,.tmp 73]) rfl ?_); at_builtin; have hal:=below_alloc (Below.refl w9.heap.size w9) (.cells #[.int .i64 y.f0,.int .i64 y.f1,.string y.f2,.slice E3 y.f3.length h3,.slice E4 y.f4.length h4] 32); replace BKt:=Lib.hid (blk_below BKt.out hal); replace BKy:=Lib.hid (blk_below BKy.out hal); replace BKr:=Lib.hid (blk_below BKr.out hal); replace BKo:=Lib.hid (blk_below BKo.out hal); replace HSB:=Lib.hid (own_below HSB.out hal); replace HRB:=Lib.hid (own_below HRB.out hal); replace HCW:=Lib.hid (HCW.out.trans (Chg.of_same hal)); replace Hu7:=Lib.hid (own_below Hu7.out hal); replace Hu9:=Lib.hid (own_below Hu9.out hal); replace HCY:=Lib.hid (HCY.out.trans (Chg.of_same hal)); replace HB:=Lib.hid (HB.out.trans (hal.mono HB.out.size)); refine list_append_rd rfl _ _ 30 32 rfl 0 5 80 (.agg #[(.int .i64 0),(.int .i64 0),(.string ⟨#[]⟩),(.slice none 0 0),(.slice none 0 0)]) Tryz.underlying30 info32 rfl (by decide) u9 (p) (inner.take (p*5)) (some ⟨w9.heap.size,0,none⟩) 1 1 [.int .i64 y.f0,.int .i64 y.f1,.string y.f2,.slice E3 y.f3.length h3,.slice E4 y.f4.length h4] rfl rfl Hu9.out (Src_box w9 _ _ 5 rfl (by intro u hu; simp at hu; rcases hu with rfl|rfl|rfl|rfl|rfl<;>rfl)) (by unfold maxLen; omega) (by omega) (Nat.zero_le _) ?_; intro u10 wu10 ho hg hat; have QY10:=Lib.hid (fun (k:Nat) (hk:u10.ownBlock=some k)=>(hat.elim (fun e=>.inl (e ▸ hk)) (fun e=>.inr (by rw [e] at hk; rw [← Option.some.inj hk]; simp)):u9.ownBlock=some k ∨ w9.heap.size≤k)); have Lu10:=Lib.hid (fun (k:Nat) (hk:u10.ownBlock=some k)=>(hat.elim (fun e=>Lu9.out k (e ▸ hk)) (fun e=>by rw [e] at hk; rw [← Option.some.inj hk]; exact HCW.out.size):wr.heap.size≤k)); replace BKt:=Lib.hid (blk_grown BKt.out hg (fun e=>Nat.not_le.2 LTt.out (Lu9.out _ e.symm))); replace BKy:=Lib.hid (blk_grown BKy.out hg (fun e=>Nat.not_le.2 LTy.out (Lu9.out _ e.symm))); replace BKr:=Lib.hid (blk_grown BKr.out hg (fun e=>Nat.not_le.2 LTr.out (Lu9.out _ e.symm))); replace BKo:=Lib.hid (blk_grown BKo.out hg (fun e=>Nat.not_le.2 LTo.out (Lu9.out _ e.symm))); replace HSB:=Lib.hid (own_chg HSB.out (Chg.grown hg (fun k e=>e)) (fun k hk e=>Nat.not_le.2 (LB3.out k hk) (Lu9.out k e))); replace HRB:=Lib.hid (own_chg HRB.out (Chg.grown hg (fun k e=>e)) (fun k hk e=>Nat.not_le.2 (LB4.out k hk) (Lu9.out k e))); replace HCW:=Lib.hid (HCW.out.trans (Chg.grown hg (fun k e=>(.inr (Lu9.out k e):k=gr ∨ wr.heap.size≤k)))); replace Hu7:=Lib.hid (own_chg Hu7.out (Chg.grown hg (fun k e=>e)) (fun k hk e=>(own_two Hu7.out Hu9.out (by decide)) k hk e)); replace HCY:=Lib.hid (HCY.out.trans (Chg.grown hg (fun k e=>(.inr (.inr (.inl e)):k=gr ∨ u7.ownBlock=some k ∨ u9.ownBlock=some k ∨ w9.heap.size≤k)))); replace HB:=Lib.hid (HB.out.grown hg HB.out.size (fun k e=>Nat.le_trans HWW.out (Lu9.out k e))); have Hu10:=Lib.hid ho; clear t0 t1 t2 t3 t4 ft0 ft1 ft2 ft3 ft4; clear y0 y1 y2 y3 y4 fy0 fy1 fy2 fy3 fy4; clear r0 r1 r2 r3 r4 fr0 fr1 fr2 fr3 fr4; clear o0 o1 o2 o3 o4 fo0 fo1 fo2 fo3 fo4; obtain ⟨t0,t1,t2,t3,t4⟩:=cells5 BKt.out; obtain ⟨ft0,ft1,ft2,ft3,ft4⟩:=free5 BKt.out; obtain ⟨y0,y1,y2,y3,y4⟩:=cells5 BKy.out; obtain ⟨fy0,fy1,fy2,fy3,fy4⟩:=free5 BKy.out; obtain ⟨r0,r1,r2,r3,r4⟩:=cells5 BKr.out; obtain ⟨fr0,fr1,fr2,fr3,fr4⟩:=free5 BKr.out; obtain ⟨o0,o1,o2,o3,o4⟩:=cells5 BKo.out; obtain ⟨fo0,fo1,fo2,fo3,fo4⟩:=free5 BKo.out; clear ho hg hat Hu9; clear hal; have T14:True:=trivial))
      have hpd3:(p:Int)≤(d3:Int):=by omega
      have SO:Hid (∀ W:World,Chg (fun k=>k=gr ∨ wr.heap.size≤k) wr W→W.cell? ⟨gt,0,none⟩=some (.int .i64 x.f0)∧W.cell? ⟨gt,1,none⟩=some (.int .i64 x.f1)∧W.cell? ⟨gt,2,none⟩=some (.string x.f2)∧W.cell? ⟨go,3,none⟩=some (.slice B3 x.f3.length d3)∧W.cell? ⟨go,4,none⟩=some (.slice B4 x.f4.length d4)∧Chg (fun k=>k=gr ∨ wr.heap.size≤k) wr W):=fun W hW =>
       ⟨chg_cell hW TC0.out NT.out,chg_cell hW TC1.out NT.out,chg_cell hW TC2.out NT.out,chg_cell hW OC3.out NO.out,chg_cell hW OC4.out NO.out,hW⟩
      go_region_held3 (fun W=>W.cell? ⟨gt,0,none⟩=some (.int .i64 x.f0)∧W.cell? ⟨gt,1,none⟩=some (.int .i64 x.f1)∧W.cell? ⟨gt,2,none⟩=some (.string x.f2)∧W.cell? ⟨go,3,none⟩=some (.slice B3 x.f3.length d3)∧W.cell? ⟨go,4,none⟩=some (.slice B4 x.f4.length d4)∧Chg (fun k=>k=gr ∨ wr.heap.size≤k) wr W)
       ((refine SO.out _ ?_; first|exact HCW.out|exact HCW.out.trans (Chg.of_same (below_drew (Below.refl _ _)))|exact HCW.out.trans (((((Chg.set _ ⟨gr,0,none⟩ _ (.inl rfl)).trans (Chg.set _ ⟨gr,1,none⟩ _ (.inl rfl))).trans (Chg.set _ ⟨gr,2,none⟩ _ (.inl rfl))).trans (Chg.set _ ⟨gr,3,none⟩ _ (.inl rfl))).trans (Chg.set _ ⟨gr,4,none⟩ _ (.inl rfl)))))
       (first
        |(replace BKt:=Lib.hid (blk_below BKt.out (below_drew (Below.refl _ _))); replace BKy:=Lib.hid (blk_below BKy.out (below_drew (Below.refl _ _))); replace BKr:=Lib.hid (blk_below BKr.out (below_drew (Below.refl _ _))); replace BKo:=Lib.hid (blk_below BKo.out (below_drew (Below.refl _ _))); replace HSB:=Lib.hid (own_below HSB.out (below_drew (Below.refl _ _))); replace HRB:=Lib.hid (own_below HRB.out (below_drew (Below.refl _ _))); replace HCW:=Lib.hid (HCW.out.trans (Chg.of_same (below_drew (Below.refl _ _)))); replace Hu7:=Lib.hid (own_below Hu7.out (below_drew (Below.refl _ _))); replace Hu10:=Lib.hid (own_below Hu10.out (below_drew (Below.refl _ _))); replace HCY:=Lib.hid (HCY.out.trans (Chg.of_same (below_drew (Below.refl _ _)))); replace HB:=Lib.hid (HB.out.trans ((below_drew (Below.refl _ _)).mono HB.out.size)); refine step_append_rd rfl (.tmp 81) (.tmp 85) 22 9 rfl 0 1 16 (.string ⟨#[]⟩) Tryz.underlying22 info9 rfl (by decide) u7 (p+1) (((x.f3.map Value.string).take (p*1)) ++ [.string key]) _ (x.f3.length-p) _ ((x.f3.map Value.string).drop (p*1)) rfl rfl ?_ ?_ ?_ ?_ ?_ ?_; (focus (exact Hu7.out)); (focus (exact Src_tail HSB.out HP.out HON.out (fun h=>by simp [show ¬ (d3=p) by omega]))); (focus (unfold maxLen; omega)); (focus (omega)); (focus (exact Nat.zero_le _)); (intro u11 wu11 ho hg hat; have Lu11:=Lib.hid (fun (k:Nat) (hk:u11.ownBlock=some k)=>(hat.elim (fun e=>Lu7.out k (e ▸ hk)) (fun e=>by rw [e] at hk; rw [← Option.some.inj hk]; exact HCW.out.size):wr.heap.size≤k)); have QYu11:=Lib.hid (fun (k:Nat) (hk:u11.ownBlock=some k)=>(hat.elim (fun e=>.inl (e ▸ hk)) (fun e=>.inr (by rw [e] at hk; rw [← Option.some.inj hk]; exact HCY.out.size)):u7.ownBlock=some k ∨ w9.heap.size≤k)); (first|replace Hu12:=Lib.hid (own_chg Hu12.out (Chg.grown hg (fun k e=>e)) (fun k hk e=>(own_two Hu12.out Hu7.out (by decide)) k hk e))|replace Hu10:=Lib.hid (own_chg Hu10.out (Chg.grown hg (fun k e=>e)) (fun k hk e=>(own_two Hu10.out Hu7.out (by decide)) k hk e))); replace BKt:=Lib.hid (blk_grown BKt.out hg (fun e=>Nat.not_le.2 LTt.out (Lu7.out _ e.symm))); replace BKy:=Lib.hid (blk_grown BKy.out hg (fun e=>Nat.not_le.2 LTy.out (Lu7.out _ e.symm))); replace BKr:=Lib.hid (blk_grown BKr.out hg (fun e=>Nat.not_le.2 LTr.out (Lu7.out _ e.symm))); replace BKo:=Lib.hid (blk_grown BKo.out hg (fun e=>Nat.not_le.2 LTo.out (Lu7.out _ e.symm))); replace HSB:=Lib.hid (own_chg HSB.out (Chg.grown hg (fun k e=>e)) (fun k hk e=>Nat.not_le.2 (LB3.out k hk) (Lu7.out k e))); replace HRB:=Lib.hid (own_chg HRB.out (Chg.grown hg (fun k e=>e)) (fun k hk e=>Nat.not_le.2 (LB4.out k hk) (Lu7.out k e))); replace HCW:=Lib.hid (HCW.out.trans (Chg.grown hg (fun k e=>(.inr (Lu7.out k e):k=gr ∨ wr.heap.size≤k)))); replace HCY:=Lib.hid (HCY.out.trans (Chg.grown hg (fun k e=>(.inr (.inl e):k=gr ∨ u7.ownBlock=some k ∨ u9.ownBlock=some k ∨ w9.heap.size≤k)))); replace HB:=Lib.hid (HB.out.grown hg HB.out.size (fun k e=>Nat.le_trans HWW.out (Lu7.out k e))); have Hu11:=Lib.hid ho; clear t0 t1 t2 t3 t4 ft0 ft1 ft2 ft3 ft4; clear y0 y1 y2 y3 y4 fy0 fy1 fy2 fy3 fy4; clear r0 r1 r2 r3 r4 fr0 fr1 fr2 fr3 fr4; clear o0 o1 o2 o3 o4 fo0 fo1 fo2 fo3 fo4; obtain ⟨t0,t1,t2,t3,t4⟩:=cells5 BKt.out; obtain ⟨ft0,ft1,ft2,ft3,ft4⟩:=free5 BKt.out; obtain ⟨y0,y1,y2,y3,y4⟩:=cells5 BKy.out; obtain ⟨fy0,fy1,fy2,fy3,fy4⟩:=free5 BKy.out; obtain ⟨r0,r1,r2,r3,r4⟩:=cells5 BKr.out; obtain ⟨fr0,fr1,fr2,fr3,fr4⟩:=free5 BKr.out; obtain ⟨o0,o1,o2,o3,o4⟩:=cells5 BKo.out; obtain ⟨fo0,fo1,fo2,fo3,fo4⟩:=free5 BKo.out; obtain ⟨gqu11,cqu11,rfl⟩:=own_form ho (by omega); clear ho hg hat))
        |(refine step_append_rd rfl (.tmp 87) (.tmp 91) 30 32 rfl 0 5 80 (.agg #[(.int .i64 0),(.int .i64 0),(.string ⟨#[]⟩),(.slice none 0 0),(.slice none 0 0)]) Tryz.underlying30 info32 rfl (by decide) u10 (p+1) (inner.take (p*5) ++ [.int .i64 y.f0,.int .i64 y.f1,.string y.f2,.slice E3 y.f3.length h3,.slice E4 y.f4.length h4]) _ (x.f4.length-p) _ (inner.drop (p*5)) rfl rfl ?_ ?_ ?_ ?_ ?_ ?_; (focus (exact Hu10.out)); (focus (exact Src_tail HRB.out HP4.out HONN.out (fun h=>by simp [show ¬ (d4=p) by omega]))); (focus (unfold maxLen; omega)); (focus (omega)); (focus (exact Nat.zero_le _)); (intro u12 wu12 ho hg hat; have Lu12:=Lib.hid (fun (k:Nat) (hk:u12.ownBlock=some k)=>(hat.elim (fun e=>Lu10.out k (e ▸ hk)) (fun e=>by rw [e] at hk; rw [← Option.some.inj hk]; exact HCW.out.size):wr.heap.size≤k)); have QYu12:=Lib.hid (fun (k:Nat) (hk:u12.ownBlock=some k)=>(hat.elim (fun e=>QY10.out k (e ▸ hk)) (fun e=>.inr (by rw [e] at hk; rw [← Option.some.inj hk]; exact HCY.out.size)):u9.ownBlock=some k ∨ w9.heap.size≤k)); (first|replace Hu11:=Lib.hid (own_chg Hu11.out (Chg.grown hg (fun k e=>e)) (fun k hk e=>(own_two Hu11.out Hu10.out (by decide)) k hk e))|replace Hu7:=Lib.hid (own_chg Hu7.out (Chg.grown hg (fun k e=>e)) (fun k hk e=>(own_two Hu7.out Hu10.out (by decide)) k hk e))); replace BKt:=Lib.hid (blk_grown BKt.out hg (fun e=>Nat.not_le.2 LTt.out (Lu10.out _ e.symm))); replace BKy:=Lib.hid (blk_grown BKy.out hg (fun e=>Nat.not_le.2 LTy.out (Lu10.out _ e.symm))); replace BKr:=Lib.hid (blk_grown BKr.out hg (fun e=>Nat.not_le.2 LTr.out (Lu10.out _ e.symm))); replace BKo:=Lib.hid (blk_grown BKo.out hg (fun e=>Nat.not_le.2 LTo.out (Lu10.out _ e.symm))); replace HSB:=Lib.hid (own_chg HSB.out (Chg.grown hg (fun k e=>e)) (fun k hk e=>Nat.not_le.2 (LB3.out k hk) (Lu10.out k e))); replace HRB:=Lib.hid (own_chg HRB.out (Chg.grown hg (fun k e=>e)) (fun k hk e=>Nat.not_le.2 (LB4.out k hk) (Lu10.out k e))); replace HCW:=Lib.hid (HCW.out.trans (Chg.grown hg (fun k e=>(.inr (Lu10.out k e):k=gr ∨ wr.heap.size≤k)))); replace HCY:=Lib.hid (HCY.out.trans (Chg.grown hg (fun k e=>((QY10.out k e).elim (fun q=>.inr (.inr (.inl q))) (fun q=>.inr (.inr (.inr q))):k=gr ∨ u7.ownBlock=some k ∨ u9.ownBlock=some k ∨ w9.heap.size≤k)))); replace HB:=Lib.hid (HB.out.grown hg HB.out.size (fun k e=>Nat.le_trans HWW.out (Lu10.out k e))); have Hu12:=Lib.hid ho; clear t0 t1 t2 t3 t4 ft0 ft1 ft2 ft3 ft4; clear y0 y1 y2 y3 y4 fy0 fy1 fy2 fy3 fy4; clear r0 r1 r2 r3 r4 fr0 fr1 fr2 fr3 fr4; clear o0 o1 o2 o3 o4 fo0 fo1 fo2 fo3 fo4; obtain ⟨t0,t1,t2,t3,t4⟩:=cells5 BKt.out; obtain ⟨ft0,ft1,ft2,ft3,ft4⟩:=free5 BKt.out; obtain ⟨y0,y1,y2,y3,y4⟩:=cells5 BKy.out; obtain ⟨fy0,fy1,fy2,fy3,fy4⟩:=free5 BKy.out; obtain ⟨r0,r1,r2,r3,r4⟩:=cells5 BKr.out; obtain ⟨fr0,fr1,fr2,fr3,fr4⟩:=free5 BKr.out; obtain ⟨o0,o1,o2,o3,o4⟩:=cells5 BKo.out; obtain ⟨fo0,fo1,fo2,fo3,fo4⟩:=free5 BKo.out; obtain ⟨gqu12,cqu12,rfl⟩:=own_form ho (by omega); clear ho hg hat)))
      all_goals go_wp2
      all_goals
       rw [HV.out p HI.out]
       have hlx:=HL.out
       have hgrl:=LTr.out
       obtain ⟨hn1,hn2,hn3,hn4⟩:=nd3_inv HT4.out.2.2
       have hyo:OT w9 y [.int .i64 y.f0,.int .i64 y.f1,.string y.f2,.slice E3 y.f3.length h3,.slice E4 y.f4.length h4] ((topFp (.slice E3 y.f3.length h3) (.slice E4 y.f4.length h4) gss)):=(OT_iff _ _ _ _).2 ⟨_,_,gss,rfl,HY.out.1,HY.out.2.1,rfl⟩
       have hin:∀ k,k ∈ fss.flatten→k ∈ topFp (.slice B3 x.f3.length d3) (.slice B4 x.f4.length d4) fss:=fun k hk=>by simp only [topFp,List.mem_append]; exact .inr (.inr hk)
       have hflt:∀ k ∈ fss.flatten,k<wr.heap.size∧gr<k∧w.heap.size≤k:=fun k hk=>⟨HTLT.out k (hin k hk),DrHT.out k (hin k hk),GEHT.out k (hin k hk)⟩
       have hI3:∀ j (h:j<x.f4.length) f,fss[j]?=some f→OT w9 x.f4[j] ((inner.drop (j*5)).take 5) f:=fun j h f hf=>OT_chg HC9.out _ _ _ (HI3.out j h f hf) (fun k hk e=>by
        have hq:=hflt k (mem_flat hf hk)
        rcases e with e|e<;>omega)
       have h7:∀ k,u7.ownBlock=some k→wr.heap.size≤k:=Lu7.out
       have h9:∀ k,u9.ownBlock=some k→wr.heap.size≤k:=Lu9.out
       have hkeys:SRow wu12 (Value.slice (some ⟨gqu11,0,none⟩) (p+1+(x.f3.length-p)) cqu11) (x.f3.take p ++ key::x.f3.drop p):=by
        have e1:(x.f3.take p ++ key::x.f3.drop p).length=p+1+(x.f3.length-p):=by rw [List.length_append,List.length_cons,List.length_take,List.length_drop]; omega
        have e2:(x.f3.take p ++ key::x.f3.drop p).map Value.string=(((x.f3.map Value.string).take (p*1)) ++ [Value.string key]) ++ (x.f3.map Value.string).drop (p*1):=by
         rw [List.map_append,List.map_cons,List.map_take,List.map_drop,Nat.mul_one,List.append_assoc,List.singleton_append]
        unfold SRow
        rw [e1,e2]
        exact Hu11.out
       have hkids:ORow wu12 (Value.slice (some ⟨gqu12,0,none⟩) (p+1+(x.f4.length-p)) cqu12) (x.f4.take p ++ y::x.f4.drop p) (fss.take p ++ (topFp (.slice E3 y.f3.length h3) (.slice E4 y.f4.length h4) gss)::fss.drop p):=ORow_ins HI2.out HRB.out.1 hI3 hyo rfl hp4 HCY.out (fun k hk e=>by
         have hq:=hflt k hk
         have hcs:=HC9.out.size
         rcases e with e|e|e|e
         ·omega
         ·have:=h7 k e; omega
         ·have:=h9 k e; omega
         ·omega) (fun k hk e=>by
         have hq:=GEHY.out k hk
         rcases e with e|e|e|e
         ·omega
         ·have:=DY7.out k e k hk; omega
         ·have:=DY9.out k e k hk; omega
         ·have:=LY9.out k hk; omega) (by
         have hu12:=Hu12.out
         rw [show p+1+(x.f4.length-p)=x.f4.length+1 by omega] at hu12
         rw [show p+1+(x.f4.length-p)=x.f4.length+1 by omega]
         exact hu12)
       have hmem:∀ k,k ∈ (fss.take p ++ (topFp (.slice E3 y.f3.length h3) (.slice E4 y.f4.length h4) gss)::fss.drop p).flatten→(k<wr.heap.size∧gr<k∧w.heap.size≤k) ∨ k ∈ (topFp (.slice E3 y.f3.length h3) (.slice E4 y.f4.length h4) gss):=fun k hk=>(ins_mem hk).elim (fun h=>.inl (hflt k h)) .inr
       have h34:∀ k,(Value.slice (some ⟨gqu11,0,none⟩) (p+1+(x.f3.length-p)) cqu11).ownBlock=some k→(Value.slice (some ⟨gqu12,0,none⟩) (p+1+(x.f4.length-p)) cqu12).ownBlock ≠ some k:=fun k hk=>own_two Hu11.out Hu12.out (by decide) k hk
       have h3F:∀ k,(Value.slice (some ⟨gqu11,0,none⟩) (p+1+(x.f3.length-p)) cqu11).ownBlock=some k→k ∉ (fss.take p ++ (topFp (.slice E3 y.f3.length h3) (.slice E4 y.f4.length h4) gss)::fss.drop p).flatten:=fun k hk hm=>by
        have h1:=Lu11.out k hk
        rcases hmem k hm with h|h
        ·omega
        ·rcases QYu11.out k hk with e|e
         ·have:=DY7.out k e k h; omega
         ·have:=LY9.out k h; omega
       have h4F:∀ k,(Value.slice (some ⟨gqu12,0,none⟩) (p+1+(x.f4.length-p)) cqu12).ownBlock=some k→k ∉ (fss.take p ++ (topFp (.slice E3 y.f3.length h3) (.slice E4 y.f4.length h4) gss)::fss.drop p).flatten:=fun k hk hm=>by
        have h1:=Lu12.out k hk
        rcases hmem k hm with h|h
        ·omega
        ·rcases QYu12.out k hk with e|e
         ·have:=DY9.out k e k h; omega
         ·have:=LY9.out k h; omega
       have hndF:(fss.take p ++ (topFp (.slice E3 y.f3.length h3) (.slice E4 y.f4.length h4) gss)::fss.drop p).flatten.Nodup:=ins_nodup p hn4 HY.out.2.2 (fun k hk hm=>by have h1:=GEHY.out k hk; have:=(hflt k hm).1; omega)
       have HTF:=Lib.hid (show Top wu12 (Value.slice (some ⟨gqu11,0,none⟩) (p+1+(x.f3.length-p)) cqu11) (Value.slice (some ⟨gqu12,0,none⟩) (p+1+(x.f4.length-p)) cqu12) ⟨x.f0,x.f1,x.f2,x.f3.take p ++ key::x.f3.drop p,x.f4.take p ++ y::x.f4.drop p⟩ (fss.take p ++ (topFp (.slice E3 y.f3.length h3) (.slice E4 y.f4.length h4) gss)::fss.drop p) from ⟨hkeys,hkids,nd3 h34 h3F h4F hndF⟩)
       have hall:∀ k ∈ topFp (Value.slice (some ⟨gqu11,0,none⟩) (p+1+(x.f3.length-p)) cqu11) (Value.slice (some ⟨gqu12,0,none⟩) (p+1+(x.f4.length-p)) cqu12) (fss.take p ++ (topFp (.slice E3 y.f3.length h3) (.slice E4 y.f4.length h4) gss)::fss.drop p),gr<k∧w.heap.size≤k:=fun k hk=>by
        have hww:=HWW.out
        simp only [topFp,List.mem_append,mem_own] at hk
        rcases hk with hk|hk|hk
        ·have:=Lu11.out k hk; omega
        ·have:=Lu12.out k hk; omega
        ·rcases hmem k hk with h|h
         ·exact ⟨h.2.1,h.2.2⟩
         ·have:=GEHY.out k h; omega
       have HRF:=Lib.hid (fun k hk=>(hall k hk).1)
       have HGF:=Lib.hid (fun k hk=>(hall k hk).2)
       have HBF:=HB
       exact bodyPost_ret (v:=.agg #[.int .i64 x.f0,.int .i64 x.f1,.string x.f2,.slice (some ⟨gqu11,0,none⟩) (p+1+(x.f3.length-p)) cqu11,.slice (some ⟨gqu12,0,none⟩) (p+1+(x.f4.length-p)) cqu12]) (by simp [results,Tryz.results54,go_sem,r0,r1,r2,r3,r4,fr0,fr1,fr2,fr3,fr4]) rfl
        ⟨_,_,rfl,_,Top_chg (S:=fun k=>k=gr) HTF.out (((((chg_put _ gr 0 _).trans (chg_put _ gr 1 _)).trans (chg_put _ gr 2 _)).trans (chg_put _ gr 3 _)).trans (chg_put _ gr 4 _)) (fun k hk e=>Nat.ne_of_gt (HRF.out k hk) e),HGF.out,((((HBF.out.setCell (p:=⟨gr,0,none⟩) GEr.out _).setCell (p:=⟨gr,1,none⟩) GEr.out _).setCell (p:=⟨gr,2,none⟩) GEr.out _).setCell (p:=⟨gr,3,none⟩) GEr.out _).setCell (p:=⟨gr,4,none⟩) GEr.out _⟩
  ·skip
   have HV:Hid (setV x key y=x):=by show _=_; unfold setV; rw [if_neg (fun h=>h6 h.2)]
   have b5:(x.f0 != 5)=false:=by rw [h5]; rfl
   have b6:((x.f3.length:Int) != (x.f4.length:Int))=true:=by simpa using (fun e=>h6 (by omega))
   clear h5 h6
   go_enter Tryz.func54,Tryz.ntmps54
   go_wp2_with (first
      |(clear T0; (with_reducible refine gate_dst (N:=3) rfl ?_); refine box_event rfl (N:=3) rfl (cs:=#[.int .i64 x.f0,.int .i64 x.f1,.string x.f2,.slice A3 x.f3.length c3,.slice A4 x.f4.length c4]) (t:=32) (by first|(go_simp; done)|(go_simp; rfl)) ?_; intro gt hg wt bk hb; have GEt:=Lib.hid (Nat.le_trans HB.out.size (Nat.le_of_eq hg.symm)); replace HB:=Lib.hid (HB.out.trans (hb.mono HB.out.size)); have BKt:=Lib.hid bk; clear hg bk hb; obtain ⟨t0,t1,t2,t3,t4⟩:=cells5 BKt.out; obtain ⟨ft0,ft1,ft2,ft3,ft4⟩:=free5 BKt.out; have T1:True:=trivial)
      |(clear T1; (with_reducible refine gate_dst (N:=5) rfl ?_); refine box_event rfl (N:=5) rfl (cs:=#[.int .i64 y.f0,.int .i64 y.f1,.string y.f2,.slice C3 y.f3.length e3,.slice C4 y.f4.length e4]) (t:=32) (by first|(go_simp; done)|(go_simp; rfl)) ?_; intro gy hg wy bk hb; have GEy:=Lib.hid (Nat.le_trans HB.out.size (Nat.le_of_eq hg.symm)); have Lty:=Lib.hid (Nat.lt_of_lt_of_le (blk_lt BKt.out) (Nat.le_of_eq hg.symm)); replace BKt:=Lib.hid (blk_below BKt.out hb); replace HB:=Lib.hid (HB.out.trans (hb.mono HB.out.size)); have BKy:=Lib.hid bk; clear hg bk hb; clear t0 t1 t2 t3 t4 ft0 ft1 ft2 ft3 ft4; obtain ⟨t0,t1,t2,t3,t4⟩:=cells5 BKt.out; obtain ⟨ft0,ft1,ft2,ft3,ft4⟩:=free5 BKt.out; obtain ⟨y0,y1,y2,y3,y4⟩:=cells5 BKy.out; obtain ⟨fy0,fy1,fy2,fy3,fy4⟩:=free5 BKy.out; have T2:True:=trivial)
      |(clear T2; (with_reducible refine gate_dst (N:=6) rfl ?_); refine box_event rfl (N:=6) rfl (cs:=#[.int .i64 0,.int .i64 0,.string ⟨#[]⟩,.slice none 0 0,.slice none 0 0]) (t:=32) (by first|(go_simp; done)|(go_simp; rfl)) ?_; intro gr hg wr bk hb; have GEr:=Lib.hid (Nat.le_trans HB.out.size (Nat.le_of_eq hg.symm)); have Ltr:=Lib.hid (Nat.lt_of_lt_of_le (blk_lt BKt.out) (Nat.le_of_eq hg.symm)); have Lyr:=Lib.hid (Nat.lt_of_lt_of_le (blk_lt BKy.out) (Nat.le_of_eq hg.symm)); replace BKt:=Lib.hid (blk_below BKt.out hb); replace BKy:=Lib.hid (blk_below BKy.out hb); replace HB:=Lib.hid (HB.out.trans (hb.mono HB.out.size)); have BKr:=Lib.hid bk; clear hg bk hb; clear t0 t1 t2 t3 t4 ft0 ft1 ft2 ft3 ft4; clear y0 y1 y2 y3 y4 fy0 fy1 fy2 fy3 fy4; obtain ⟨t0,t1,t2,t3,t4⟩:=cells5 BKt.out; obtain ⟨ft0,ft1,ft2,ft3,ft4⟩:=free5 BKt.out; obtain ⟨y0,y1,y2,y3,y4⟩:=cells5 BKy.out; obtain ⟨fy0,fy1,fy2,fy3,fy4⟩:=free5 BKy.out; obtain ⟨r0,r1,r2,r3,r4⟩:=cells5 BKr.out; obtain ⟨fr0,fr1,fr2,fr3,fr4⟩:=free5 BKr.out; have T3:True:=trivial)
      |(clear T3; go_at_call 113; refine (HCP.out _ _ _ _ _ (Kd.C_below G3.out HB.out) l3 (Kd.C_below G4.out HB.out) l4).mono ?_; rintro e w1 ⟨v3,v4,fss,rfl,ht,hg,hb⟩; obtain ⟨B3,d3,rfl,m3,n3⟩:=SRow_C ht.1; obtain ⟨B4,d4,rfl,m4,n4⟩:=ORow_C ht.2.1; clear n3 n4; have DtHT:=Lib.hid (fun k hk=>Nat.lt_of_lt_of_le (blk_lt BKt.out) (hg k hk)); have DyHT:=Lib.hid (fun k hk=>Nat.lt_of_lt_of_le (blk_lt BKy.out) (hg k hk)); have DrHT:=Lib.hid (fun k hk=>Nat.lt_of_lt_of_le (blk_lt BKr.out) (hg k hk)); have GEHT:=Lib.hid (fun k hk=>Nat.le_trans HB.out.size (hg k hk)); replace BKt:=Lib.hid (blk_below BKt.out hb); replace BKy:=Lib.hid (blk_below BKy.out hb); replace BKr:=Lib.hid (blk_below BKr.out hb); replace HB:=Lib.hid (HB.out.trans (hb.mono HB.out.size)); have HT:=Lib.hid ht; clear t0 t1 t2 t3 t4 ft0 ft1 ft2 ft3 ft4; clear y0 y1 y2 y3 y4 fy0 fy1 fy2 fy3 fy4; clear r0 r1 r2 r3 r4 fr0 fr1 fr2 fr3 fr4; obtain ⟨t0,t1,t2,t3,t4⟩:=cells5 BKt.out; obtain ⟨ft0,ft1,ft2,ft3,ft4⟩:=free5 BKt.out; obtain ⟨y0,y1,y2,y3,y4⟩:=cells5 BKy.out; obtain ⟨fy0,fy1,fy2,fy3,fy4⟩:=free5 BKy.out; obtain ⟨r0,r1,r2,r3,r4⟩:=cells5 BKr.out; obtain ⟨fr0,fr1,fr2,fr3,fr4⟩:=free5 BKr.out; clear ht hg hb; have T4:True:=trivial)
      |(clear T4; (with_reducible refine gate_dst (N:=7) rfl ?_); refine box_event rfl (N:=7) rfl (cs:=#[.int .i64 0,.int .i64 0,.string ⟨#[]⟩,.slice none 0 0,.slice none 0 0]) (t:=32) (by first|(go_simp; done)|(go_simp; rfl)) ?_; intro go hg wo bk hb; have GEo:=Lib.hid (Nat.le_trans HB.out.size (Nat.le_of_eq hg.symm)); have UoHT:=Lib.hid (fun k hk=>Nat.lt_of_lt_of_le (Top_lt HT.out k hk) (Nat.le_of_eq hg.symm)); have Lto:=Lib.hid (Nat.lt_of_lt_of_le (blk_lt BKt.out) (Nat.le_of_eq hg.symm)); have Lyo:=Lib.hid (Nat.lt_of_lt_of_le (blk_lt BKy.out) (Nat.le_of_eq hg.symm)); have Lro:=Lib.hid (Nat.lt_of_lt_of_le (blk_lt BKr.out) (Nat.le_of_eq hg.symm)); replace BKt:=Lib.hid (blk_below BKt.out hb); replace BKy:=Lib.hid (blk_below BKy.out hb); replace BKr:=Lib.hid (blk_below BKr.out hb); replace HT:=Lib.hid (Top_below HT.out hb); replace HB:=Lib.hid (HB.out.trans (hb.mono HB.out.size)); have BKo:=Lib.hid bk; clear hg bk hb; clear t0 t1 t2 t3 t4 ft0 ft1 ft2 ft3 ft4; clear y0 y1 y2 y3 y4 fy0 fy1 fy2 fy3 fy4; clear r0 r1 r2 r3 r4 fr0 fr1 fr2 fr3 fr4; obtain ⟨t0,t1,t2,t3,t4⟩:=cells5 BKt.out; obtain ⟨ft0,ft1,ft2,ft3,ft4⟩:=free5 BKt.out; obtain ⟨y0,y1,y2,y3,y4⟩:=cells5 BKy.out; obtain ⟨fy0,fy1,fy2,fy3,fy4⟩:=free5 BKy.out; obtain ⟨r0,r1,r2,r3,r4⟩:=cells5 BKr.out; obtain ⟨fr0,fr1,fr2,fr3,fr4⟩:=free5 BKr.out; obtain ⟨o0,o1,o2,o3,o4⟩:=cells5 BKo.out; obtain ⟨fo0,fo1,fo2,fo3,fo4⟩:=free5 BKo.out; have T5:True:=trivial)
      |(clear T5; (with_reducible refine gate_store (p:=7) rfl ?_); refine store5_event rfl rfl rfl (g:=go) (.int .i64 x.f0) (.int .i64 x.f1) (.string x.f2) (.slice B3 x.f3.length d3) (.slice B4 x.f4.length d4) BKo.out (by first|(go_simp; done)|(go_simp; rfl)) ?_; intro w2 bk hc; replace BKt:=Lib.hid (blk_chg BKt.out hc (fun e=>Nat.ne_of_lt Lto.out e)); replace BKy:=Lib.hid (blk_chg BKy.out hc (fun e=>Nat.ne_of_lt Lyo.out e)); replace BKr:=Lib.hid (blk_chg BKr.out hc (fun e=>Nat.ne_of_lt Lro.out e)); replace HT:=Lib.hid (Top_chg HT.out hc (fun k hk e=>Nat.ne_of_lt (UoHT.out k hk) e)); replace HB:=Lib.hid (below_chg HB.out HB.out.size hc (fun k e=>e ▸ GEo.out)); replace BKo:=Lib.hid bk; clear t0 t1 t2 t3 t4 ft0 ft1 ft2 ft3 ft4; clear y0 y1 y2 y3 y4 fy0 fy1 fy2 fy3 fy4; clear r0 r1 r2 r3 r4 fr0 fr1 fr2 fr3 fr4; clear o0 o1 o2 o3 o4 fo0 fo1 fo2 fo3 fo4; obtain ⟨t0,t1,t2,t3,t4⟩:=cells5 BKt.out; obtain ⟨ft0,ft1,ft2,ft3,ft4⟩:=free5 BKt.out; obtain ⟨y0,y1,y2,y3,y4⟩:=cells5 BKy.out; obtain ⟨fy0,fy1,fy2,fy3,fy4⟩:=free5 BKy.out; obtain ⟨r0,r1,r2,r3,r4⟩:=cells5 BKr.out; obtain ⟨fr0,fr1,fr2,fr3,fr4⟩:=free5 BKr.out; obtain ⟨o0,o1,o2,o3,o4⟩:=cells5 BKo.out; obtain ⟨fo0,fo1,fo2,fo3,fo4⟩:=free5 BKo.out; clear bk hc; have T6:True:=trivial))
   rw [HV.out]
   have HTF:=HT
   have HRF:=DrHT
   have HGF:=GEHT
   have HBF:=HB
   exact bodyPost_ret (v:=.agg #[.int .i64 x.f0,.int .i64 x.f1,.string x.f2,.slice B3 x.f3.length d3,.slice B4 x.f4.length d4]) (by simp [results,Tryz.results54,go_sem,r0,r1,r2,r3,r4,fr0,fr1,fr2,fr3,fr4]) rfl
    ⟨_,_,fss,rfl,Top_chg (S:=fun k=>k=gr) HTF.out (((((chg_put _ gr 0 _).trans (chg_put _ gr 1 _)).trans (chg_put _ gr 2 _)).trans (chg_put _ gr 3 _)).trans (chg_put _ gr 4 _)) (fun k hk e=>Nat.ne_of_gt (HRF.out k hk) e),HGF.out,((((HBF.out.setCell (p:=⟨gr,0,none⟩) GEr.out _).setCell (p:=⟨gr,1,none⟩) GEr.out _).setCell (p:=⟨gr,2,none⟩) GEr.out _).setCell (p:=⟨gr,3,none⟩) GEr.out _).setCell (p:=⟨gr,4,none⟩) GEr.out _⟩
 ·skip
  have HV:Hid (setV x key y=x):=by show _=_; unfold setV; rw [if_neg (fun h=>by simp [h.1] at h5)]
  have d5:decide (x.f0=5)=false:=decide_eq_false h5
  go_enter Tryz.func54,Tryz.ntmps54
  go_wp2_with (first
     |(clear T0; (with_reducible refine gate_dst (N:=3) rfl ?_); refine box_event rfl (N:=3) rfl (cs:=#[.int .i64 x.f0,.int .i64 x.f1,.string x.f2,.slice A3 x.f3.length c3,.slice A4 x.f4.length c4]) (t:=32) (by first|(go_simp; done)|(go_simp; rfl)) ?_; intro gt hg wt bk hb; have GEt:=Lib.hid (Nat.le_trans HB.out.size (Nat.le_of_eq hg.symm)); replace HB:=Lib.hid (HB.out.trans (hb.mono HB.out.size)); have BKt:=Lib.hid bk; clear hg bk hb; obtain ⟨t0,t1,t2,t3,t4⟩:=cells5 BKt.out; obtain ⟨ft0,ft1,ft2,ft3,ft4⟩:=free5 BKt.out; have T1:True:=trivial)
     |(clear T1; (with_reducible refine gate_dst (N:=5) rfl ?_); refine box_event rfl (N:=5) rfl (cs:=#[.int .i64 y.f0,.int .i64 y.f1,.string y.f2,.slice C3 y.f3.length e3,.slice C4 y.f4.length e4]) (t:=32) (by first|(go_simp; done)|(go_simp; rfl)) ?_; intro gy hg wy bk hb; have GEy:=Lib.hid (Nat.le_trans HB.out.size (Nat.le_of_eq hg.symm)); have Lty:=Lib.hid (Nat.lt_of_lt_of_le (blk_lt BKt.out) (Nat.le_of_eq hg.symm)); replace BKt:=Lib.hid (blk_below BKt.out hb); replace HB:=Lib.hid (HB.out.trans (hb.mono HB.out.size)); have BKy:=Lib.hid bk; clear hg bk hb; clear t0 t1 t2 t3 t4 ft0 ft1 ft2 ft3 ft4; obtain ⟨t0,t1,t2,t3,t4⟩:=cells5 BKt.out; obtain ⟨ft0,ft1,ft2,ft3,ft4⟩:=free5 BKt.out; obtain ⟨y0,y1,y2,y3,y4⟩:=cells5 BKy.out; obtain ⟨fy0,fy1,fy2,fy3,fy4⟩:=free5 BKy.out; have T2:True:=trivial)
     |(clear T2; (with_reducible refine gate_dst (N:=6) rfl ?_); refine box_event rfl (N:=6) rfl (cs:=#[.int .i64 0,.int .i64 0,.string ⟨#[]⟩,.slice none 0 0,.slice none 0 0]) (t:=32) (by first|(go_simp; done)|(go_simp; rfl)) ?_; intro gr hg wr bk hb; have GEr:=Lib.hid (Nat.le_trans HB.out.size (Nat.le_of_eq hg.symm)); have Ltr:=Lib.hid (Nat.lt_of_lt_of_le (blk_lt BKt.out) (Nat.le_of_eq hg.symm)); have Lyr:=Lib.hid (Nat.lt_of_lt_of_le (blk_lt BKy.out) (Nat.le_of_eq hg.symm)); replace BKt:=Lib.hid (blk_below BKt.out hb); replace BKy:=Lib.hid (blk_below BKy.out hb); replace HB:=Lib.hid (HB.out.trans (hb.mono HB.out.size)); have BKr:=Lib.hid bk; clear hg bk hb; clear t0 t1 t2 t3 t4 ft0 ft1 ft2 ft3 ft4; clear y0 y1 y2 y3 y4 fy0 fy1 fy2 fy3 fy4; obtain ⟨t0,t1,t2,t3,t4⟩:=cells5 BKt.out; obtain ⟨ft0,ft1,ft2,ft3,ft4⟩:=free5 BKt.out; obtain ⟨y0,y1,y2,y3,y4⟩:=cells5 BKy.out; obtain ⟨fy0,fy1,fy2,fy3,fy4⟩:=free5 BKy.out; obtain ⟨r0,r1,r2,r3,r4⟩:=cells5 BKr.out; obtain ⟨fr0,fr1,fr2,fr3,fr4⟩:=free5 BKr.out; have T3:True:=trivial)
     |(clear T3; go_at_call 113; refine (HCP.out _ _ _ _ _ (Kd.C_below G3.out HB.out) l3 (Kd.C_below G4.out HB.out) l4).mono ?_; rintro e w1 ⟨v3,v4,fss,rfl,ht,hg,hb⟩; obtain ⟨B3,d3,rfl,m3,n3⟩:=SRow_C ht.1; obtain ⟨B4,d4,rfl,m4,n4⟩:=ORow_C ht.2.1; clear n3 n4; have DtHT:=Lib.hid (fun k hk=>Nat.lt_of_lt_of_le (blk_lt BKt.out) (hg k hk)); have DyHT:=Lib.hid (fun k hk=>Nat.lt_of_lt_of_le (blk_lt BKy.out) (hg k hk)); have DrHT:=Lib.hid (fun k hk=>Nat.lt_of_lt_of_le (blk_lt BKr.out) (hg k hk)); have GEHT:=Lib.hid (fun k hk=>Nat.le_trans HB.out.size (hg k hk)); replace BKt:=Lib.hid (blk_below BKt.out hb); replace BKy:=Lib.hid (blk_below BKy.out hb); replace BKr:=Lib.hid (blk_below BKr.out hb); replace HB:=Lib.hid (HB.out.trans (hb.mono HB.out.size)); have HT:=Lib.hid ht; clear t0 t1 t2 t3 t4 ft0 ft1 ft2 ft3 ft4; clear y0 y1 y2 y3 y4 fy0 fy1 fy2 fy3 fy4; clear r0 r1 r2 r3 r4 fr0 fr1 fr2 fr3 fr4; obtain ⟨t0,t1,t2,t3,t4⟩:=cells5 BKt.out; obtain ⟨ft0,ft1,ft2,ft3,ft4⟩:=free5 BKt.out; obtain ⟨y0,y1,y2,y3,y4⟩:=cells5 BKy.out; obtain ⟨fy0,fy1,fy2,fy3,fy4⟩:=free5 BKy.out; obtain ⟨r0,r1,r2,r3,r4⟩:=cells5 BKr.out; obtain ⟨fr0,fr1,fr2,fr3,fr4⟩:=free5 BKr.out; clear ht hg hb; have T4:True:=trivial)
     |(clear T4; (with_reducible refine gate_dst (N:=7) rfl ?_); refine box_event rfl (N:=7) rfl (cs:=#[.int .i64 0,.int .i64 0,.string ⟨#[]⟩,.slice none 0 0,.slice none 0 0]) (t:=32) (by first|(go_simp; done)|(go_simp; rfl)) ?_; intro go hg wo bk hb; have GEo:=Lib.hid (Nat.le_trans HB.out.size (Nat.le_of_eq hg.symm)); have UoHT:=Lib.hid (fun k hk=>Nat.lt_of_lt_of_le (Top_lt HT.out k hk) (Nat.le_of_eq hg.symm)); have Lto:=Lib.hid (Nat.lt_of_lt_of_le (blk_lt BKt.out) (Nat.le_of_eq hg.symm)); have Lyo:=Lib.hid (Nat.lt_of_lt_of_le (blk_lt BKy.out) (Nat.le_of_eq hg.symm)); have Lro:=Lib.hid (Nat.lt_of_lt_of_le (blk_lt BKr.out) (Nat.le_of_eq hg.symm)); replace BKt:=Lib.hid (blk_below BKt.out hb); replace BKy:=Lib.hid (blk_below BKy.out hb); replace BKr:=Lib.hid (blk_below BKr.out hb); replace HT:=Lib.hid (Top_below HT.out hb); replace HB:=Lib.hid (HB.out.trans (hb.mono HB.out.size)); have BKo:=Lib.hid bk; clear hg bk hb; clear t0 t1 t2 t3 t4 ft0 ft1 ft2 ft3 ft4; clear y0 y1 y2 y3 y4 fy0 fy1 fy2 fy3 fy4; clear r0 r1 r2 r3 r4 fr0 fr1 fr2 fr3 fr4; obtain ⟨t0,t1,t2,t3,t4⟩:=cells5 BKt.out; obtain ⟨ft0,ft1,ft2,ft3,ft4⟩:=free5 BKt.out; obtain ⟨y0,y1,y2,y3,y4⟩:=cells5 BKy.out; obtain ⟨fy0,fy1,fy2,fy3,fy4⟩:=free5 BKy.out; obtain ⟨r0,r1,r2,r3,r4⟩:=cells5 BKr.out; obtain ⟨fr0,fr1,fr2,fr3,fr4⟩:=free5 BKr.out; obtain ⟨o0,o1,o2,o3,o4⟩:=cells5 BKo.out; obtain ⟨fo0,fo1,fo2,fo3,fo4⟩:=free5 BKo.out; have T5:True:=trivial)
     |(clear T5; (with_reducible refine gate_store (p:=7) rfl ?_); refine store5_event rfl rfl rfl (g:=go) (.int .i64 x.f0) (.int .i64 x.f1) (.string x.f2) (.slice B3 x.f3.length d3) (.slice B4 x.f4.length d4) BKo.out (by first|(go_simp; done)|(go_simp; rfl)) ?_; intro w2 bk hc; replace BKt:=Lib.hid (blk_chg BKt.out hc (fun e=>Nat.ne_of_lt Lto.out e)); replace BKy:=Lib.hid (blk_chg BKy.out hc (fun e=>Nat.ne_of_lt Lyo.out e)); replace BKr:=Lib.hid (blk_chg BKr.out hc (fun e=>Nat.ne_of_lt Lro.out e)); replace HT:=Lib.hid (Top_chg HT.out hc (fun k hk e=>Nat.ne_of_lt (UoHT.out k hk) e)); replace HB:=Lib.hid (below_chg HB.out HB.out.size hc (fun k e=>e ▸ GEo.out)); replace BKo:=Lib.hid bk; clear t0 t1 t2 t3 t4 ft0 ft1 ft2 ft3 ft4; clear y0 y1 y2 y3 y4 fy0 fy1 fy2 fy3 fy4; clear r0 r1 r2 r3 r4 fr0 fr1 fr2 fr3 fr4; clear o0 o1 o2 o3 o4 fo0 fo1 fo2 fo3 fo4; obtain ⟨t0,t1,t2,t3,t4⟩:=cells5 BKt.out; obtain ⟨ft0,ft1,ft2,ft3,ft4⟩:=free5 BKt.out; obtain ⟨y0,y1,y2,y3,y4⟩:=cells5 BKy.out; obtain ⟨fy0,fy1,fy2,fy3,fy4⟩:=free5 BKy.out; obtain ⟨r0,r1,r2,r3,r4⟩:=cells5 BKr.out; obtain ⟨fr0,fr1,fr2,fr3,fr4⟩:=free5 BKr.out; obtain ⟨o0,o1,o2,o3,o4⟩:=cells5 BKo.out; obtain ⟨fo0,fo1,fo2,fo3,fo4⟩:=free5 BKo.out; clear bk hc; have T6:True:=trivial))
  rw [HV.out]
  have HTF:=HT
  have HRF:=DrHT
  have HGF:=GEHT
  have HBF:=HB
  exact bodyPost_ret (v:=.agg #[.int .i64 x.f0,.int .i64 x.f1,.string x.f2,.slice B3 x.f3.length d3,.slice B4 x.f4.length d4]) (by simp [results,Tryz.results54,go_sem,r0,r1,r2,r3,r4,fr0,fr1,fr2,fr3,fr4]) rfl
   ⟨_,_,fss,rfl,Top_chg (S:=fun k=>k=gr) HTF.out (((((chg_put _ gr 0 _).trans (chg_put _ gr 1 _)).trans (chg_put _ gr 2 _)).trans (chg_put _ gr 3 _)).trans (chg_put _ gr 4 _)) (fun k hk e=>Nat.ne_of_gt (HRF.out k hk) e),HGF.out,((((HBF.out.setCell (p:=⟨gr,0,none⟩) GEr.out _).setCell (p:=⟨gr,1,none⟩) GEr.out _).setCell (p:=⟨gr,2,none⟩) GEr.out _).setCell (p:=⟨gr,3,none⟩) GEr.out _).setCell (p:=⟨gr,4,none⟩) GEr.out _⟩
end Go.Proofs.YtdlhidjphaaklaaGreat.H
end
section
namespace Go.Proofs.YtdlhidjphaaklaaGreat.V
open Go Go.RowKit Go.Proofs.YtdlhidjphaaklaaGreat Go.Proofs.YtdlhidjphaaklaaGreat.P Go.Proofs.YtdlhidjphaaklaaGreatW
set_option maxRecDepth 100000
attribute [local irreducible] thenQ blockQ AWP AOps FinQ Draw One PrintWords.bt
end Go.Proofs.YtdlhidjphaaklaaGreat.V
namespace Go.Proofs.YtdlhidjphaaklaaGreat.P
open Go.RowKit Go.Proofs.YtdlhidjphaaklaaGreatW.PrintWords Go.Proofs.YtdlhidjphaaklaaGreatW.PrintLast Go.Proofs.YtdlhidjphaaklaaGreatW.PrintMore
theorem spec_Set_given (a0_0 a0_1:Int) (a0_2:ByteArray) (A0_3:Option Addr) (c0_3:Nat) (l0_3:List ByteArray) (A0_4:Option Addr) (c0_4:Nat) (l0_4:List S32) (a1:ByteArray) (a2_0 a2_1:Int) (a2_2:ByteArray) (A2_3:Option Addr) (c2_3:Nat) (l2_3:List ByteArray) (A2_4:Option Addr) (c2_4:Nat) (l2_4:List S32) (r1 r2:Int) (r3:ByteArray) (r4:List ByteArray) (r5:List S32) (w:World)
  (hr0_3:Kd.C Kd.string w A0_3 l0_3.length l0_3) (hc0_3:l0_3.length≤c0_3) (hr0_4:Kd.C k32 w A0_4 l0_4.length l0_4) (hc0_4:l0_4.length≤c0_4) (hr2_3:Kd.C Kd.string w A2_3 l2_3.length l2_3) (hc2_3:l2_3.length≤c2_3) (hr2_4:Kd.C k32 w A2_4 l2_4.length l2_4) (hc2_4:l2_4.length≤c2_4) (h:spec_Set.f a0_0 a0_1 a0_2 l0_3 l0_4 a1 a2_0 a2_1 a2_2 l2_3 l2_4=some (r1,r2,r3,r4,r5)) :
  Calls Tryz.prog 54 #[.agg #[.int .i64 a0_0,.int .i64 a0_1,.string a0_2,.slice A0_3 l0_3.length c0_3,.slice A0_4 l0_4.length c0_4],.string a1,.agg #[.int .i64 a2_0,.int .i64 a2_1,.string a2_2,.slice A2_3 l2_3.length c2_3,.slice A2_4 l2_4.length c2_4]] w fun e w'=>∃ v3_ v4_:Value,e=.returned (.agg #[.int .i64 r1,.int .i64 r2,.string r3,v3_,v4_])∧Kd.R Kd.string 9 w' w.heap.size (fun _=>True) v3_ r4∧Kd.R k32 32 w' w.heap.size (fun k_=>some k_ ≠ (v3_:Value).ownBlock) v4_ r5∧Below w.heap.size w w':=by
 unfold spec_Set.f at h
 split at h
 ·rename_i hc
  simp only [Option.some.injEq,Prod.mk.injEq] at h
  obtain ⟨rfl,rfl,rfl,rfl,rfl⟩:=h
  exact (H.setS_calls ⟨a0_0,a0_1,a0_2,l0_3,l0_4⟩ a1 ⟨a2_0,a2_1,a2_2,l2_3,l2_4⟩ hc.1 hc.2 A0_3 A0_4 A2_3 A2_4 c0_3 c0_4 c2_3 c2_4 w hr0_3 hc0_3 hr0_4 hc0_4 hr2_3 hc2_3 hr2_4 hc2_4).mono fun e w' hm=>H.Made_R hm
 ·cases h
end Go.Proofs.YtdlhidjphaaklaaGreat.P
namespace Go.Proofs.YtdlhidjphaaklaaGreat.V
open Go Go.RowKit Go.Proofs.YtdlhidjphaaklaaGreat Go.Proofs.YtdlhidjphaaklaaGreat.P Go.Proofs.YtdlhidjphaaklaaGreatW
theorem spec_Set_fn {a0_0 a0_1:Int} {a0_2:ByteArray} {l0_3:List ByteArray} {l0_4:List S32} {a1:ByteArray} {a2_0 a2_1:Int} {a2_2:ByteArray} {l2_3:List ByteArray} {l2_4:List S32} {r:_} (H:spec_Set.f a0_0 a0_1 a0_2 l0_3 l0_4 a1 a2_0 a2_1 a2_2 l2_3 l2_4=some r):Fn Tryz.prog 54 [.agg [.val (.int .i64 a0_0),.val (.int .i64 a0_1),.val (.string a0_2),.row (l0_3.map (cS)) .no,.row (l0_4.map (c32)) .no],.val (.string a1),.agg [.val (.int .i64 a2_0),.val (.int .i64 a2_1),.val (.string a2_2),.row (l2_3.map (cS)) .no,.row (l2_4.map (c32)) .no]] [] (.agg [.val (.int .i64 r.1),.val (.int .i64 r.2.1),.val (.string r.2.2.1),.row (r.2.2.2.1.map (cS)) .no,.row (r.2.2.2.2.map (c32)) .no]) []:=by
 refine fn_below (fun F gs w vs hv=>?_) rfl
 obtain ⟨r1,r2,r3,r4,r5⟩:=r
 obtain ⟨vg1,wg1,rfl,g1,g2⟩:=reps_cons hv
 obtain ⟨ug3,rfl,g3⟩:=rep_agg g1
 obtain ⟨vg4,wg4,rfl,g4,g5⟩:=reps_cons g3
 obtain rfl:=(rep_val g4).1
 obtain ⟨vg6,wg6,rfl,g6,g7⟩:=reps_cons g5
 obtain rfl:=(rep_val g6).1
 obtain ⟨vg8,wg8,rfl,g8,g9⟩:=reps_cons g7
 obtain rfl:=(rep_val g8).1
 obtain ⟨vg10,wg10,rfl,g10,g11⟩:=reps_cons g9
 obtain ⟨A0_3,c0_3,rfl,hc0_3,hr0_3⟩:=row_of (ka_string).len (fun x _ cs h=>(ka_string).of h) g10
 obtain ⟨vg12,wg12,rfl,g12,g13⟩:=reps_cons g11
 obtain ⟨A0_4,c0_4,rfl,hc0_4,hr0_4⟩:=row_of (ka32).len (fun x _ cs h=>(ka32).of h) g12
 obtain rfl:=reps_nil g13
 obtain ⟨vg14,wg14,rfl,g14,g15⟩:=reps_cons g2
 obtain rfl:=(rep_val g14).1
 obtain ⟨vg16,wg16,rfl,g16,g17⟩:=reps_cons g15
 obtain ⟨ug18,rfl,g18⟩:=rep_agg g16
 obtain ⟨vg19,wg19,rfl,g19,g20⟩:=reps_cons g18
 obtain rfl:=(rep_val g19).1
 obtain ⟨vg21,wg21,rfl,g21,g22⟩:=reps_cons g20
 obtain rfl:=(rep_val g21).1
 obtain ⟨vg23,wg23,rfl,g23,g24⟩:=reps_cons g22
 obtain rfl:=(rep_val g23).1
 obtain ⟨vg25,wg25,rfl,g25,g26⟩:=reps_cons g24
 obtain ⟨A2_3,c2_3,rfl,hc2_3,hr2_3⟩:=row_of (ka_string).len (fun x _ cs h=>(ka_string).of h) g25
 obtain ⟨vg27,wg27,rfl,g27,g28⟩:=reps_cons g26
 obtain ⟨A2_4,c2_4,rfl,hc2_4,hr2_4⟩:=row_of (ka32).len (fun x _ cs h=>(ka32).of h) g27
 obtain rfl:=reps_nil g28
 obtain rfl:=reps_nil g17
 refine (spec_Set_given _ _ _ A0_3 c0_3 _ A0_4 c0_4 _ _ _ _ _ A2_3 c2_3 _ A2_4 c2_4 _ _ _ _ _ _ w hr0_3 hc0_3 hr0_4 hc0_4 hr2_3 hc2_3 hr2_4 hc2_4 H).mono ?_
 rintro e w' ⟨v3_,v4_,rfl,h1_,h2_,h3_⟩
 exact ⟨_,rfl,(rep_agg_mk (reps_cons_mk (Rep.val _ rfl) (reps_cons_mk (Rep.val _ rfl) (reps_cons_mk (Rep.val _ rfl) (reps_cons_mk (row_mk [] (by decide) (ka_string).len (ka_string).fl (fun x _ cs ok' h=>(ka_string).made [] h) h1_) (reps_cons_mk (row_mk [] (by decide) (ka32).len (ka32).fl (fun x _ cs ok' h=>(ka32).made [] h) h2_) reps_nil_mk))))) rfl),h3_⟩
end Go.Proofs.YtdlhidjphaaklaaGreat.V
end
section
namespace Go.Proofs.YtdlhidjphaaklaaGreat.V
open Go Go.RowKit Go.Proofs.YtdlhidjphaaklaaGreat Go.Proofs.YtdlhidjphaaklaaGreat.P Go.Proofs.YtdlhidjphaaklaaGreatW
set_option maxRecDepth 100000
attribute [local irreducible] thenQ blockQ AWP AOps FinQ Draw One PrintWords.bt
abbrev spec_l1In_P:Prop:=∀ {a0:Int} {a1:Int} {a2:Int} {r:Bool} (H:spec_l1In.f a0 a1 a2=some r),Fn Tryz.prog 93 [.val (.int .i64 a0),.val (.int .i64 a1),.val (.int .i64 a2)] [] (.val (.bool r)) []
abbrev spec_NameOk_P:Prop:=∀ {k:Nat} {a0:ByteArray} {r:Bool} (H:spec_NameOk.f k a0=some r),Fn Tryz.prog 95 [.val (.string a0)] [] (.val (.bool r)) []
abbrev spec_PaceOk_P:Prop:=∀ {a0_0:Int} {a0_1:Int} {a0_2:Int} {a0_3:Int} {r:Bool} (H:spec_PaceOk.f a0_0 a0_1 a0_2 a0_3=some r),Fn Tryz.prog 111 [.agg [.val (.int .i64 a0_0),.val (.int .i64 a0_1),.val (.int .i64 a0_2),.val (.int .i64 a0_3)]] [] (.val (.bool r)) []
abbrev spec_MetricOk_P:Prop:=∀ {k:Nat} {a0_0:ByteArray} {a0_1:Int} {a0_2:Int} {r:Bool} (H:spec_MetricOk.f k a0_0 a0_1 a0_2=some r),Fn Tryz.prog 156 [.agg [.val (.string a0_0),.val (.int .i64 a0_1),.val (.int .i64 a0_2)]] [] (.val (.bool r)) []
abbrev spec_l6Metrics_P:Prop:=∀ {k:Nat} {l0:List (S61)} {r:Bool} (H:spec_l6Metrics.f k l0=some r),Fn Tryz.prog 110 [.row (l0.map (c61)) .no] [] (.val (.bool r)) []
abbrev spec_l5Letter_P:Prop:=∀ {a0:Int} {r:Bool} (H:spec_l5Letter.f a0=some r),Fn Tryz.prog 183 [.val (.int .u8 a0)] [] (.val (.bool r)) []
abbrev spec_PlainOk_P:Prop:=∀ {k:Nat} {a0:ByteArray} {r:Bool} (H:spec_PlainOk.f k a0=some r),Fn Tryz.prog 157 [.val (.string a0)] [] (.val (.bool r)) []
abbrev spec_TextOk_P:Prop:=∀ {k:Nat} {a0:ByteArray} {r:Bool} (H:spec_TextOk.f k a0=some r),Fn Tryz.prog 159 [.val (.string a0)] [] (.val (.bool r)) []
abbrev spec_l6Ours_P:Prop:=∀ {a0:ByteArray} {r:Bool} (H:spec_l6Ours.f a0=some r),Fn Tryz.prog 158 [.val (.string a0)] [] (.val (.bool r)) []
abbrev spec_l6Notes_P:Prop:=∀ {k:Nat} {l0:List (S124)} {r:Bool} (H:spec_l6Notes.f k l0=some r),Fn Tryz.prog 112 [.row (l0.map (c124)) .no] [] (.val (.bool r)) []
abbrev spec_OrderOk_P:Prop:=∀ {k:Nat} {a0_0:ByteArray} {a0_1:ByteArray} {a0_2:Int} {a0_3:Int} {l0_4:List (S61)} {a0_5:Int} {a0_6:Int} {a0_7:Int} {a0_8:Int} {l0_9:List (S124)} {r:Bool} (H:spec_OrderOk.f k a0_0 a0_1 a0_2 a0_3 l0_4 a0_5 a0_6 a0_7 a0_8 l0_9=some r),Fn Tryz.prog 53 [.agg [.val (.string a0_0),.val (.string a0_1),.val (.int .i64 a0_2),.val (.int .i64 a0_3),.row (l0_4.map (c61)) .no,.val (.int .i64 a0_5),.val (.int .i64 a0_6),.val (.int .i64 a0_7),.val (.int .i64 a0_8),.row (l0_9.map (c124)) .no]] [] (.val (.bool r)) []
set_option maxHeartbeats 16000000 in
theorem grp_spec_l1In:(spec_l1In_P)∧(spec_l1In_P→spec_NameOk_P)∧(spec_l1In_P→spec_PaceOk_P)∧(spec_l1In_P→spec_NameOk_P→spec_MetricOk_P)∧(spec_MetricOk_P→spec_l6Metrics_P)∧(spec_l5Letter_P)∧(spec_l1In_P→spec_l5Letter_P→spec_PlainOk_P)∧(spec_TextOk_P)∧(spec_l6Ours_P)∧(spec_PlainOk_P→spec_TextOk_P→spec_l6Ours_P→spec_l6Notes_P)∧(spec_l1In_P→spec_NameOk_P→spec_PaceOk_P→spec_l6Metrics_P→spec_l6Notes_P→spec_OrderOk_P):=by
 refine ⟨?_,?_,?_,?_,?_,?_,?_,?_,?_,?_,?_⟩
 intro a0 a1 a2 r H; refine w_fn (n:=15) Tryz.func93 rfl rfl rfl rfl rfl ?_; unfold spec_l1In.f at H; try dsimp only at H
 rotate_left
 intro q_spec_l1In k a0 r H; refine w_fn (n:=40) Tryz.func95 rfl rfl rfl rfl rfl ?_; unfold spec_NameOk.f at H; try dsimp only at H
 rotate_left
 intro q_spec_l1In a0_0 a0_1 a0_2 a0_3 r H; refine w_fn (n:=21) Tryz.func111 rfl rfl rfl rfl rfl ?_; unfold spec_PaceOk.f at H; try dsimp only at H
 rotate_left
 intro q_spec_l1In q_spec_NameOk k a0_0 a0_1 a0_2 r H; refine w_fn (n:=16) Tryz.func156 rfl rfl rfl rfl rfl ?_; unfold spec_MetricOk.f at H; try dsimp only at H
 rotate_left
 intro q_spec_MetricOk k l0 r H; refine w_fn (n:=37) Tryz.func110 rfl rfl rfl rfl rfl ?_; unfold spec_l6Metrics.f at H; try dsimp only at H
 rotate_left
 intro a0 r H; refine w_fn (n:=17) Tryz.func183 rfl rfl rfl rfl rfl ?_; unfold spec_l5Letter.f at H; try dsimp only at H
 rotate_left
 intro q_spec_l1In q_spec_l5Letter k a0 r H; refine w_fn (n:=61) Tryz.func157 rfl rfl rfl rfl rfl ?_; unfold spec_PlainOk.f at H; try dsimp only at H
 rotate_left
 intro k a0 r H; refine w_fn (n:=23) Tryz.func159 rfl rfl rfl rfl rfl ?_; unfold spec_TextOk.f at H; try dsimp only at H
 rotate_left
 intro a0 r H; refine w_fn (n:=11) Tryz.func158 rfl rfl rfl rfl rfl ?_; unfold spec_l6Ours.f at H; try dsimp only at H
 rotate_left
 intro q_spec_PlainOk q_spec_TextOk q_spec_l6Ours k l0 r H; refine w_fn (n:=64) Tryz.func112 rfl rfl rfl rfl rfl ?_; unfold spec_l6Notes.f at H; try dsimp only at H
 rotate_left
 intro q_spec_l1In q_spec_NameOk q_spec_PaceOk q_spec_l6Metrics q_spec_l6Notes k a0_0 a0_1 a0_2 a0_3 l0_4 a0_5 a0_6 a0_7 a0_8 l0_9 r H; refine w_fn (n:=38) Tryz.func53 rfl rfl rfl rfl rfl ?_; unfold spec_OrderOk.f at H; try dsimp only at H
 rotate_left
 repeat' first
  |exact WB.nil _
  |refine WB.cons ?_ ?_
  |exact WL.nil
  |refine WL.cons ?_ ?_
  |exact W1.same _
  |exact W1.no _ _
  |exact W1.any _ rfl
  |exact sub3_nil
  |refine sub3_cons rfl ?_ ?_
  |rfl
  |(refine one_id ?_; first
   |refine s_move rfl ?_
   |refine s_load rfl rfl rfl ?_
   |refine s_fldb rfl ?_
   |refine s_add64 rfl rfl ?_
   |refine s_sub64 rfl rfl ?_
   |refine s_bin rfl rfl rfl ?_
   |refine s_assign rfl ?_
   |refine s_pick rfl rfl ?_
   |refine s_loadr rfl rfl rfl ?_
   |refine s_fldr rfl ?_
   |refine s_not rfl ?_
   |refine s_lens rfl ?_
   |refine s_lenm rfl ?_
   |(refine s_bt rfl rfl ?_ ?_ ?_; (focus (first|assumption|decide|omega)); (focus (first|assumption|decide|omega)))
   |refine s_ix61 rfl rfl ‹_› ‹_› rfl ?_
   |(refine s_ix61 rfl rfl ?_ ?_ rfl ?_; (focus (first|assumption|decide|omega)); (focus (first|assumption|decide|omega)))
   |refine s_ix124 rfl rfl ‹_› ‹_› rfl ?_
   |(refine s_ix124 rfl rfl ?_ ?_ rfl ?_; (focus (first|assumption|decide|omega)); (focus (first|assumption|decide|omega)))
   |(refine s_substr rfl rfl rfl ?_ ?_ ?_ ?_; (focus (first|assumption|decide|omega)); (focus (first|assumption|decide|omega)); (focus (first|assumption|decide|omega)))
   |(have hb:=Option.bind_eq_some_iff.1 H; clear H; obtain ⟨t,hA,H⟩:=hb; refine s_call rfl (by first|exact q_spec_l1In hA|exact q_spec_NameOk hA|exact q_spec_PaceOk hA|exact q_spec_MetricOk hA|exact q_spec_l6Metrics hA|exact q_spec_l5Letter hA|exact q_spec_PlainOk hA|exact q_spec_TextOk hA|exact q_spec_l6Ours hA|exact q_spec_l6Notes hA) (by first|rfl|(simp only [L25_eq,L32_eq,c25_eq,c32_eq]; rfl)|(simp only [List.map_cons,List.map_nil,L25_eq,L32_eq,c25_eq,c32_eq]; rfl)) rfl rfl rfl ?_)
   )
  |(refine q_id ?_; first
   |refine q_box rfl rfl rfl rfl rfl rfl rfl ?_
   |refine q_one rfl rfl rfl rfl rfl ?_
   |refine q_nil rfl ?_
   |(refine q_run rfl rfl rfl rfl ?_ rfl rfl ?_; focus (first|with_reducible rfl|(simp only [Bool.not_true,Bool.not_false]; done)))
   |(refine q_skip rfl rfl rfl rfl ?_ rfl rfl ?_; focus (first|with_reducible rfl|(simp only [Bool.not_true,Bool.not_false]; done)))
   |refine q_dead rfl rfl rfl rfl rfl rfl ?_
   )
  |(refine w_id ?_; first
   |refine w_seq rfl ?_
   |refine w_region rfl ?_
   |refine w_block rfl ?_
   |refine w_ret rfl ?_
   |refine w_skip rfl ?_
   |refine w_exit rfl ?_
   |(refine w_true rfl rfl ?_ ?_; focus (first|with_reducible rfl|(simp only [Bool.not_true,Bool.not_false]; done)))
   |(refine w_false rfl rfl ?_ ?_; focus (first|with_reducible rfl|(simp only [Bool.not_true,Bool.not_false]; done)))
   |(refine w_loop3 (fun (v:(ByteArray) × (Int))=>⟨40,[(0,.val (.string v.1)),(3,.val (.int .i64 v.2))],[],[]⟩) (fun k v=>spec_NameOk.l0 k v.1 v.2) _ (_,_) rfl (fun _=>rfl) (fun _ _=>rfl) ⟨rfl,?_,?_,rfl,?_,rfl,rfl⟩ rfl H ?_; rotate_right; clear H; rintro k ⟨x0,x3⟩ hk H; simp only [spec_NameOk.l0] at H; dsimp only)
   |refine w_draw (c:=cl (cl (cl (cr (cl (cl (cr (cl (cr (bo Tryz.f110)))))))))) 24 [] rfl (by kernel_rfl) rfl ?_
   |(refine w_loop3 (fun (v:(List (S61)) × (Int))=>⟨37,[(0,.row (v.1.map c61) .no),(3,.val (.int .i64 v.2))],[],[]⟩) (fun k v=>spec_l6Metrics.l0 k v.1 v.2) _ (_,_) rfl (fun _=>rfl) (fun _ _=>rfl) ⟨rfl,?_,?_,rfl,?_,rfl,rfl⟩ rfl H ?_; rotate_right; clear H; rintro k ⟨x0,x3⟩ hk H; simp only [spec_l6Metrics.l0] at H; dsimp only)
   |(refine w_loop3 (fun (v:(ByteArray) × (Int))=>⟨61,[(0,.val (.string v.1)),(3,.val (.int .i64 v.2))],[],[]⟩) (fun k v=>spec_PlainOk.l0 k v.1 v.2) _ (_,_) rfl (fun _=>rfl) (fun _ _=>rfl) ⟨rfl,?_,?_,rfl,?_,rfl,rfl⟩ rfl H ?_; rotate_right; clear H; rintro k ⟨x0,x3⟩ hk H; simp only [spec_PlainOk.l0] at H; dsimp only)
   |(refine w_loop3 (fun (v:(ByteArray) × (Int))=>⟨23,[(0,.val (.string v.1)),(3,.val (.int .i64 v.2))],[],[]⟩) (fun k v=>spec_TextOk.l0 k v.1 v.2) _ (_,_) rfl (fun _=>rfl) (fun _ _=>rfl) ⟨rfl,?_,?_,rfl,?_,rfl,rfl⟩ rfl H ?_; rotate_right; clear H; rintro k ⟨x0,x3⟩ hk H; simp only [spec_TextOk.l0] at H; dsimp only)
   |refine w_draw (c:=cl (cl (cl (cr (cl (cl (cr (cl (cr (bo Tryz.f112)))))))))) 51 [] rfl (by kernel_rfl) rfl ?_
   |(refine w_loop3 (fun (v:(List (S124)) × (Int))=>⟨64,[(0,.row (v.1.map c124) .no),(3,.val (.int .i64 v.2))],[],[]⟩) (fun k v=>spec_l6Notes.l0 k v.1 v.2) _ (_,_) rfl (fun _=>rfl) (fun _ _=>rfl) ⟨rfl,?_,?_,rfl,?_,rfl,rfl⟩ rfl H ?_; rotate_right; clear H; rintro k ⟨x0,x3⟩ hk H; simp only [spec_l6Notes.l0] at H; dsimp only)
   )
  |(refine t_id ?_; first
   |refine t_norm ?_
   |refine t_exit ?_
   |refine t_ret ?_
   )
  |(refine b_id ?_; first
   |refine b_here ?_
   |refine b_norm ?_
   |refine b_ret ?_
   )
  |(refine e_id ?_; first
   |refine e_one rfl rfl rfl rfl rfl ?_
   |refine e_end rfl ?_
   |(refine e_run rfl rfl rfl rfl ?_ rfl rfl ?_; focus (first|with_reducible rfl|(simp only [Bool.not_true,Bool.not_false]; done)))
   |(refine e_skip rfl rfl rfl rfl ?_ rfl rfl ?_; focus (first|with_reducible rfl|(simp only [Bool.not_true,Bool.not_false]; done)))
   |refine e_dead rfl rfl rfl rfl rfl rfl ?_
   )
  |(simp (disch:=assumption) only [decide_eq_true,decide_eq_false])
  |(refine ⟨_,(_,_),?_,?_,H⟩; (focus omega); refine ⟨rfl,?_,?_,rfl,?_,rfl,rfl⟩)
  |(obtain rfl:=Option.some.inj H)
  |exact fq1b (.inr rfl) rfl (by first|exact res_tmp rfl|exact res_cell rfl rfl rfl) rfl rfl rfl (.inl rfl)
  |exact fq1b (.inr rfl) rfl (by first|exact res_tmp rfl|exact res_cell rfl rfl rfl) rfl rfl rfl (.inr ⟨_,_,rfl,by decide⟩)
  |exact W1.same _
  |exact W1.no _ _
  |exact W1.any _ rfl
  |exact sub3_nil
  |(refine sub3_cons rfl ?_ ?_)
  |(simp only [lit_list,wrapK_i64,wrapK_i32,wrapK_u8,wrap64_u8,Int.reduceToNat,Int.toNat_natCast])
  |(simp only [List.map_append,List.map_cons,List.map_nil,Int.zero_sub,wrapK_u8,wrap64_u8,L25_eq,L32_eq,c25_eq,c32_eq]; first|exact W1.same _|exact W1.no _ _|exact W1.any _ rfl)
  |(simp only [List.length_append,List.length_map,List.length_cons,List.length_nil]; rfl)
  |(simp (disch:=assumption) only [if_pos,if_neg] at H)
  |(simp only [Option.bind_some] at H)
  |(simp only [beq_dec,bne_dec,decide_eq_true_eq] at H)
  |(have hh:=ite_none_ H; clear H; obtain ⟨hc,H⟩:=hh)
  |(have hh:=ite_none2_ H; clear H; obtain ⟨hc,H⟩:=hh)
  |(refine (ite_some_ H).elim (fun hh=>?_) (fun hh=>?_)<;>clear H<;>obtain ⟨hc,H⟩:=hh<;>first|(cases H; done)|(cases hc; done)|(exact absurd rfl hc)|(subst hc; done)|rw [decide_eq_true hc]|rw [decide_eq_false hc]|rw [@decide_eq_true _ (_) hc]|rw [@decide_eq_false _ (_) hc]|subst hc|(obtain rfl:=Bool.eq_false_iff.2 hc)|rw [hc]|rw [Bool.eq_false_iff.2 hc])
  |(simp only [bne_dec,beq_dec])
theorem spec_l1In_fn:spec_l1In_P:=grp_spec_l1In.1
theorem spec_NameOk_fn:spec_NameOk_P:=grp_spec_l1In.2.1 spec_l1In_fn
theorem spec_PaceOk_fn:spec_PaceOk_P:=grp_spec_l1In.2.2.1 spec_l1In_fn
theorem spec_MetricOk_fn:spec_MetricOk_P:=grp_spec_l1In.2.2.2.1 spec_l1In_fn spec_NameOk_fn
theorem spec_l6Metrics_fn:spec_l6Metrics_P:=grp_spec_l1In.2.2.2.2.1 spec_MetricOk_fn
theorem spec_l5Letter_fn:spec_l5Letter_P:=grp_spec_l1In.2.2.2.2.2.1
theorem spec_PlainOk_fn:spec_PlainOk_P:=grp_spec_l1In.2.2.2.2.2.2.1 spec_l1In_fn spec_l5Letter_fn
theorem spec_TextOk_fn:spec_TextOk_P:=grp_spec_l1In.2.2.2.2.2.2.2.1
theorem spec_l6Ours_fn:spec_l6Ours_P:=grp_spec_l1In.2.2.2.2.2.2.2.2.1
theorem spec_l6Notes_fn:spec_l6Notes_P:=grp_spec_l1In.2.2.2.2.2.2.2.2.2.1 spec_PlainOk_fn spec_TextOk_fn spec_l6Ours_fn
theorem spec_OrderOk_fn:spec_OrderOk_P:=grp_spec_l1In.2.2.2.2.2.2.2.2.2.2 spec_l1In_fn spec_NameOk_fn spec_PaceOk_fn spec_l6Metrics_fn spec_l6Notes_fn
abbrev spec_IntOf_P:Prop:=∀ {a0:Int} {r:_} (H:spec_IntOf.f a0=some r),Fn Tryz.prog 76 [.val (.int .i64 a0)] [] (.agg [.val (.int .i64 r.1),.val (.int .i64 r.2.1),.val (.string r.2.2.1),.row (r.2.2.2.1.map (cS)) .no,.row (r.2.2.2.2.map (c32)) .no]) []
abbrev spec_Digits_P:Prop:=∀ {k:Nat} {a0:Int} {r:ByteArray} (H:spec_Digits.f k a0=some r),Fn Tryz.prog 35 [.val (.int .i64 a0)] [] (.val (.string r)) []
abbrev spec_SpanText_P:Prop:=∀ {k:Nat} {a0:Int} {r:ByteArray} (H:spec_SpanText.f k a0=some r),Fn Tryz.prog 117 [.val (.int .i64 a0)] [] (.val (.string r)) []
abbrev spec_TextOf_P:Prop:=∀ {a0:ByteArray} {r:_} (H:spec_TextOf.f a0=some r),Fn Tryz.prog 78 [.val (.string a0)] [] (.agg [.val (.int .i64 r.1),.val (.int .i64 r.2.1),.val (.string r.2.2.1),.row (r.2.2.2.1.map (cS)) .no,.row (r.2.2.2.2.map (c32)) .no]) []
abbrev spec_l7Map_P:Prop:=∀ {k:Nat} {l0:List ByteArray} {l1:List (S32)} {r:_} (H:spec_l7Map.f k l0 l1=some r),Fn Tryz.prog 115 [.row (l0.map (cS)) .no,.row (l1.map (c32)) .no] [] (.agg [.val (.int .i64 r.1),.val (.int .i64 r.2.1),.val (.string r.2.2.1),.row (r.2.2.2.1.map (cS)) .no,.row (r.2.2.2.2.map (c32)) .no]) []
abbrev spec_PaceTree_P:Prop:=∀ {k:Nat} {a0_0:Int} {a0_1:Int} {a0_2:Int} {a0_3:Int} {r:_} (H:spec_PaceTree.f k a0_0 a0_1 a0_2 a0_3=some r),Fn Tryz.prog 57 [.agg [.val (.int .i64 a0_0),.val (.int .i64 a0_1),.val (.int .i64 a0_2),.val (.int .i64 a0_3)]] [] (.agg [.val (.int .i64 r.1),.val (.int .i64 r.2.1),.val (.string r.2.2.1),.row (r.2.2.2.1.map (cS)) .no,.row (r.2.2.2.2.map (c32)) .no]) []
abbrev spec_l7Head_P:Prop:=∀ {k:Nat} {a0_0:ByteArray} {a0_1:ByteArray} {a0_2:Int} {a0_3:Int} {l0_4:List (S61)} {a0_5:Int} {a0_6:Int} {a0_7:Int} {a0_8:Int} {l0_9:List (S124)} {a1:ByteArray} {r:_} (H:spec_l7Head.f k a0_0 a0_1 a0_2 a0_3 l0_4 a0_5 a0_6 a0_7 a0_8 l0_9 a1=some r),Fn Tryz.prog 55 [.agg [.val (.string a0_0),.val (.string a0_1),.val (.int .i64 a0_2),.val (.int .i64 a0_3),.row (l0_4.map (c61)) .no,.val (.int .i64 a0_5),.val (.int .i64 a0_6),.val (.int .i64 a0_7),.val (.int .i64 a0_8),.row (l0_9.map (c124)) .no],.val (.string a1)] [] (.agg [.val (.int .i64 r.1),.val (.int .i64 r.2.1),.val (.string r.2.2.1),.row (r.2.2.2.1.map (cS)) .no,.row (r.2.2.2.2.map (c32)) .no]) []
abbrev spec_AmountText_P:Prop:=∀ {k:Nat} {a0:Int} {r:ByteArray} (H:spec_AmountText.f k a0=some r),Fn Tryz.prog 160 [.val (.int .i64 a0)] [] (.val (.string r)) []
abbrev spec_l7Kind_P:Prop:=∀ {a0:Int} {r:ByteArray} (H:spec_l7Kind.f a0=some r),Fn Tryz.prog 94 [.val (.int .i64 a0)] [] (.val (.string r)) []
abbrev spec_MetricTree_P:Prop:=∀ {k:Nat} {a0_0:ByteArray} {a0_1:Int} {a0_2:Int} {r:_} (H:spec_MetricTree.f k a0_0 a0_1 a0_2=some r),Fn Tryz.prog 116 [.agg [.val (.string a0_0),.val (.int .i64 a0_1),.val (.int .i64 a0_2)]] [] (.agg [.val (.int .i64 r.1),.val (.int .i64 r.2.1),.val (.string r.2.2.1),.row (r.2.2.2.1.map (cS)) .no,.row (r.2.2.2.2.map (c32)) .no]) []
abbrev spec_l7Metrics_P:Prop:=∀ {k:Nat} {l0:List (S61)} {r:_} (H:spec_l7Metrics.f k l0=some r),Fn Tryz.prog 56 [.row (l0.map (c61)) .no] [] (.agg [.val (.int .i64 r.1),.val (.int .i64 r.2.1),.val (.string r.2.2.1),.row (r.2.2.2.1.map (cS)) .no,.row (r.2.2.2.2.map (c32)) .no]) []
abbrev spec_l7Notes_P:Prop:=∀ {k:Nat} {l0:List (S124)} {r:_} (H:spec_l7Notes.f k l0=some r),Fn Tryz.prog 58 [.row (l0.map (c124)) .no] [] (.agg [.val (.int .i64 r.1),.val (.int .i64 r.2.1),.val (.string r.2.2.1),.row (r.2.2.2.1.map (cS)) .no,.row (r.2.2.2.2.map (c32)) .no]) []
abbrev spec_FullTree_P:Prop:=∀ {k:Nat} {a0_0:ByteArray} {a0_1:ByteArray} {a0_2:Int} {a0_3:Int} {l0_4:List (S61)} {a0_5:Int} {a0_6:Int} {a0_7:Int} {a0_8:Int} {l0_9:List (S124)} {r:_} (H:spec_FullTree.f k a0_0 a0_1 a0_2 a0_3 l0_4 a0_5 a0_6 a0_7 a0_8 l0_9=some r),Fn Tryz.prog 18 [.agg [.val (.string a0_0),.val (.string a0_1),.val (.int .i64 a0_2),.val (.int .i64 a0_3),.row (l0_4.map (c61)) .no,.val (.int .i64 a0_5),.val (.int .i64 a0_6),.val (.int .i64 a0_7),.val (.int .i64 a0_8),.row (l0_9.map (c124)) .no]] [] (.agg [.val (.int .i64 r.1),.val (.int .i64 r.2.1),.val (.string r.2.2.1),.row (r.2.2.2.1.map (cS)) .no,.row (r.2.2.2.2.map (c32)) .no]) []
set_option maxHeartbeats 16000000 in
theorem grp_spec_IntOf:(spec_IntOf_P)∧(spec_Digits_P)∧(spec_Digits_P→spec_SpanText_P)∧(spec_TextOf_P)∧(spec_l7Map_P)∧(spec_IntOf_P→spec_SpanText_P→spec_TextOf_P→spec_l7Map_P→spec_PaceTree_P)∧(spec_IntOf_P→spec_TextOf_P→spec_l7Map_P→spec_l7Head_P)∧(spec_Digits_P→spec_AmountText_P)∧(spec_l7Kind_P)∧(spec_TextOf_P→spec_l7Map_P→spec_AmountText_P→spec_l7Kind_P→spec_MetricTree_P)∧(spec_MetricTree_P→spec_l7Metrics_P)∧(spec_TextOf_P→spec_l7Notes_P)∧(spec_PaceTree_P→spec_l7Head_P→spec_l7Metrics_P→spec_l7Notes_P→spec_FullTree_P):=by
 refine ⟨?_,?_,?_,?_,?_,?_,?_,?_,?_,?_,?_,?_,?_⟩
 intro a0 r H; refine w_fn (n:=5) Tryz.func76 rfl rfl rfl rfl rfl ?_; unfold spec_IntOf.f at H; try dsimp only at H
 rotate_left
 intro k a0 r H; refine w_fn (n:=31) Tryz.func35 rfl rfl rfl rfl rfl ?_; unfold spec_Digits.f at H; try dsimp only at H
 rotate_left
 intro q_spec_Digits k a0 r H; refine w_fn (n:=34) Tryz.func117 rfl rfl rfl rfl rfl ?_; unfold spec_SpanText.f at H; try dsimp only at H
 rotate_left
 intro a0 r H; refine w_fn (n:=5) Tryz.func78 rfl rfl rfl rfl rfl ?_; unfold spec_TextOf.f at H; try dsimp only at H
 rotate_left
 intro k l0 l1 r H; refine w_fn (n:=25) Tryz.func115 rfl rfl rfl rfl rfl ?_; unfold spec_l7Map.f at H; try dsimp only at H
 rotate_left
 intro q_spec_IntOf q_spec_SpanText q_spec_TextOf q_spec_l7Map k a0_0 a0_1 a0_2 a0_3 r H; refine w_fn (n:=20) Tryz.func57 rfl rfl rfl rfl rfl ?_; unfold spec_PaceTree.f at H; try dsimp only at H
 rotate_left
 intro q_spec_IntOf q_spec_TextOf q_spec_l7Map k a0_0 a0_1 a0_2 a0_3 l0_4 a0_5 a0_6 a0_7 a0_8 l0_9 a1 r H; refine w_fn (n:=22) Tryz.func55 rfl rfl rfl rfl rfl ?_; unfold spec_l7Head.f at H; try dsimp only at H
 rotate_left
 intro q_spec_Digits k a0 r H; refine w_fn (n:=29) Tryz.func160 rfl rfl rfl rfl rfl ?_; unfold spec_AmountText.f at H; try dsimp only at H
 rotate_left
 intro a0 r H; refine w_fn (n:=10) Tryz.func94 rfl rfl rfl rfl rfl ?_; unfold spec_l7Kind.f at H; try dsimp only at H
 rotate_left
 intro q_spec_TextOf q_spec_l7Map q_spec_AmountText q_spec_l7Kind k a0_0 a0_1 a0_2 r H; refine w_fn (n:=17) Tryz.func116 rfl rfl rfl rfl rfl ?_; unfold spec_MetricTree.f at H; try dsimp only at H
 rotate_left
 intro q_spec_MetricTree k l0 r H; refine w_fn (n:=23) Tryz.func56 rfl rfl rfl rfl rfl ?_; unfold spec_l7Metrics.f at H; try dsimp only at H
 rotate_left
 intro q_spec_TextOf k l0 r H; refine w_fn (n:=26) Tryz.func58 rfl rfl rfl rfl rfl ?_; unfold spec_l7Notes.f at H; try dsimp only at H
 rotate_left
 intro q_spec_PaceTree q_spec_l7Head q_spec_l7Metrics q_spec_l7Notes k a0_0 a0_1 a0_2 a0_3 l0_4 a0_5 a0_6 a0_7 a0_8 l0_9 r H; refine w_fn (n:=23) Tryz.func18 rfl rfl rfl rfl rfl ?_; unfold spec_FullTree.f at H; try dsimp only at H
 rotate_left
 repeat' first
  |exact WB.nil _
  |refine WB.cons ?_ ?_
  |exact WL.nil
  |refine WL.cons ?_ ?_
  |exact W1.same _
  |exact W1.no _ _
  |exact W1.any _ rfl
  |exact sub3_nil
  |refine sub3_cons rfl ?_ ?_
  |rfl
  |(refine one_id ?_; first
   |refine s_move rfl ?_
   |refine s_load rfl rfl rfl ?_
   |refine s_fldb rfl ?_
   |refine s_zsub rfl rfl ?_
   |refine s_add64 rfl rfl ?_
   |refine s_bin rfl rfl rfl ?_
   |refine s_assign rfl ?_
   |refine s_pick rfl rfl ?_
   |refine s_loadr rfl rfl rfl ?_
   |refine s_fldr rfl ?_
   |refine s_not rfl ?_
   |refine s_lenm rfl ?_
   |refine s_ixS rfl rfl ‹_› ‹_› rfl ?_
   |(refine s_ixS rfl rfl ?_ ?_ rfl ?_; (focus (first|assumption|decide|omega)); (focus (first|assumption|decide|omega)))
   |refine s_ix32 rfl rfl ‹_› ‹_› rfl ?_
   |(refine s_ix32 rfl rfl ?_ ?_ rfl ?_; (focus (first|assumption|decide|omega)); (focus (first|assumption|decide|omega)))
   |refine s_ix61 rfl rfl ‹_› ‹_› rfl ?_
   |(refine s_ix61 rfl rfl ?_ ?_ rfl ?_; (focus (first|assumption|decide|omega)); (focus (first|assumption|decide|omega)))
   |refine s_ix124 rfl rfl ‹_› ‹_› rfl ?_
   |(refine s_ix124 rfl rfl ?_ ?_ rfl ?_; (focus (first|assumption|decide|omega)); (focus (first|assumption|decide|omega)))
   |refine s_conv rfl ?_
   |refine s_tostrl rfl ?_
   |refine s_lit rfl rfl rfl rfl ?_
   |refine s_build rfl ?_
   |(refine s_cat rfl rfl ?_ ?_; (focus (first|assumption|omega)))
   |(have hb:=Option.bind_eq_some_iff.1 H; clear H; obtain ⟨t,hA,H⟩:=hb; refine s_call rfl (by first|exact spec_OrderOk_fn hA|exact spec_Set_fn hA|exact spec_l1In_fn hA|exact q_spec_IntOf hA|exact q_spec_Digits hA|exact q_spec_SpanText hA|exact q_spec_TextOf hA|exact q_spec_l7Map hA|exact q_spec_PaceTree hA|exact q_spec_l7Head hA|exact q_spec_AmountText hA|exact q_spec_l7Kind hA|exact q_spec_MetricTree hA|exact q_spec_l7Metrics hA|exact q_spec_l7Notes hA) (by first|rfl|(simp only [L25_eq,L32_eq,c25_eq,c32_eq]; rfl)|(simp only [List.map_cons,List.map_nil,L25_eq,L32_eq,c25_eq,c32_eq]; rfl)) rfl rfl rfl ?_)
   )
  |(refine q_id ?_; first
   |refine q_alloc rfl rfl rfl rfl rfl ?_
   |refine q_box rfl rfl rfl rfl rfl rfl rfl ?_
   |refine q_one rfl rfl rfl rfl rfl ?_
   |refine q_nil rfl ?_
   |refine q_store rfl rfl rfl rfl rfl rfl rfl rfl rfl rfl ?_
   |(refine q_run rfl rfl rfl rfl ?_ rfl rfl ?_; focus (first|with_reducible rfl|(simp only [Bool.not_true,Bool.not_false]; done)))
   |(refine q_skip rfl rfl rfl rfl ?_ rfl rfl ?_; focus (first|with_reducible rfl|(simp only [Bool.not_true,Bool.not_false]; done)))
   )
  |(refine w_id ?_; first
   |refine w_seq rfl ?_
   |refine w_region rfl ?_
   |refine w_block rfl ?_
   |refine w_ret rfl ?_
   |refine w_skip rfl ?_
   |refine w_exit rfl ?_
   |(refine w_true rfl rfl ?_ ?_; focus (first|with_reducible rfl|(simp only [Bool.not_true,Bool.not_false]; done)))
   |(refine w_false rfl rfl ?_ ?_; focus (first|with_reducible rfl|(simp only [Bool.not_true,Bool.not_false]; done)))
   |(refine w_loop3 (fun (v:(Int) × (Bool) × (ByteArray))=>⟨31,[(0,.val (.int .i64 v.1)),(3,.val (.bool v.2.1)),(4,.val (.string v.2.2))],[],[]⟩) (fun k v=>spec_Digits.l0 k v.1 v.2.1 v.2.2) _ (_,_,_) rfl (fun _=>rfl) (fun _ _=>rfl) ⟨rfl,?_,?_,rfl,?_,rfl,rfl⟩ rfl H ?_; rotate_right; clear H; rintro k ⟨x0,x3,x4⟩ hk H; simp only [spec_Digits.l0] at H; dsimp only)
   |refine w_draw (c:=cl (cl (cr (cl (cl (cr (cl (cr (cr (bo Tryz.f115)))))))))) 10 [] rfl (by kernel_rfl) rfl ?_
   |(refine w_loop3 (fun (v:(List ByteArray) × (List (S32)) × (Int) × (Int) × (Int) × (ByteArray) × (List ByteArray) × (List (S32)))=>⟨25,[(0,.row (v.1.map cS) .no),(1,.row (v.2.1.map c32) .no),(6,.val (.int .i64 v.2.2.1)),(4,.ptr 0 0),(5,.ptr 1 0)],[[(.val (.int .i64 0)),(.val (.int .i64 0)),(.val (.string ⟨#[]⟩)),(.row [] .nil),(.row [] .nil)],[.val (.int .i64 v.2.2.2.1),.val (.int .i64 v.2.2.2.2.1),.val (.string v.2.2.2.2.2.1),.row (v.2.2.2.2.2.2.1.map cS) .no,.row (v.2.2.2.2.2.2.2.map c32) .no]],[]⟩) (fun k v=>spec_l7Map.l0 k v.1 v.2.1 v.2.2.1 v.2.2.2.1 v.2.2.2.2.1 v.2.2.2.2.2.1 v.2.2.2.2.2.2.1 v.2.2.2.2.2.2.2) _ (_,_,_,_,_,_,_,_) rfl (fun _=>rfl) (fun _ _=>rfl) ⟨rfl,?_,?_,rfl,?_,rfl,rfl⟩ rfl H ?_; rotate_right; clear H; rintro k ⟨x0,x1,x6,x496000,x496001,x496002,x496003,x496004⟩ hk H; simp only [spec_l7Map.l0] at H; dsimp only)
   |refine w_draw (c:=cl (cr (bo Tryz.f57))) 17 [] rfl (by kernel_rfl) rfl ?_
   |refine w_draw (c:=cl (cr (bo Tryz.f55))) 17 [] rfl (by kernel_rfl) rfl ?_
   |refine w_draw (c:=cl (cr (bo Tryz.f116))) 14 [] rfl (by kernel_rfl) rfl ?_
   |refine w_draw (c:=cl (cl (cr (cl (cl (cr (cl (cr (cr (bo Tryz.f56)))))))))) 10 [] rfl (by kernel_rfl) rfl ?_
   |((try refine w_ownb 1 4 32 5 rfl rfl rfl ?_); refine w_loop3 (fun (v:(List (S61)) × (Int) × (Int) × (Int) × (ByteArray) × (List (S32)))=>⟨23,[(0,.row (v.1.map c61) .no),(4,.val (.int .i64 v.2.1)),(2,.ptr 0 0),(3,.ptr 1 0)],[[(.val (.int .i64 0)),(.val (.int .i64 0)),(.val (.string ⟨#[]⟩)),(.row [] .nil),(.row [] .nil)],[.val (.int .i64 v.2.2.1),.val (.int .i64 v.2.2.2.1),.val (.string v.2.2.2.2.1),(.row [] .nil),.row (v.2.2.2.2.2.map c32) (.own 0)]],[(v.2.2.2.2.2.length,32,5)]⟩) (fun k v=>spec_l7Metrics.l0 k v.1 v.2.1 v.2.2.1 v.2.2.2.1 v.2.2.2.2.1 v.2.2.2.2.2) _ (_,_,_,_,_,_) rfl (fun _=>rfl) (fun _ _=>rfl) ⟨rfl,?_,?_,rfl,?_,rfl,rfl⟩ rfl H ?_; rotate_right; clear H; rintro k ⟨x0,x4,x621000,x621001,x621002,x621004⟩ hk H; simp only [spec_l7Metrics.l0] at H; dsimp only)
   |refine w_draw (c:=cl (cl (cr (cl (cl (cr (cl (cr (cr (bo Tryz.f58)))))))))) 13 [] rfl (by kernel_rfl) rfl ?_
   |(refine w_loop3 (fun (v:(List (S124)) × (Int) × (Int) × (Int) × (ByteArray) × (List ByteArray) × (List (S32)))=>⟨26,[(0,.row (v.1.map c124) .no),(4,.val (.int .i64 v.2.1)),(2,.ptr 0 0),(3,.ptr 1 0)],[[(.val (.int .i64 0)),(.val (.int .i64 0)),(.val (.string ⟨#[]⟩)),(.row [] .nil),(.row [] .nil)],[.val (.int .i64 v.2.2.1),.val (.int .i64 v.2.2.2.1),.val (.string v.2.2.2.2.1),.row (v.2.2.2.2.2.1.map cS) .no,.row (v.2.2.2.2.2.2.map c32) .no]],[]⟩) (fun k v=>spec_l7Notes.l0 k v.1 v.2.1 v.2.2.1 v.2.2.2.1 v.2.2.2.2.1 v.2.2.2.2.2.1 v.2.2.2.2.2.2) _ (_,_,_,_,_,_,_) rfl (fun _=>rfl) (fun _ _=>rfl) ⟨rfl,?_,?_,rfl,?_,rfl,rfl⟩ rfl H ?_; rotate_right; clear H; rintro k ⟨x0,x4,x695000,x695001,x695002,x695003,x695004⟩ hk H; simp only [spec_l7Notes.l0] at H; dsimp only)
   |refine w_draw (c:=cl (cr (cr (bo Tryz.f18)))) 7 [[(.val (.int .i64 0)),(.val (.int .i64 0)),(.val (.string ⟨#[]⟩)),(.row [] .nil),(.row [] .nil)]] rfl (by kernel_rfl) rfl ?_
   |refine w_draw (c:=cl (cr (cr (cr (bo Tryz.f18))))) 9 [] rfl (by kernel_rfl) rfl ?_
   )
  |(refine t_id ?_; first
   |refine t_norm ?_
   |refine t_exit ?_
   |refine t_ret ?_
   )
  |(refine b_id ?_; first
   |refine b_here ?_
   |refine b_norm ?_
   |refine b_ret ?_
   )
  |(refine e_id ?_; first
   |refine e_alloc rfl rfl rfl rfl rfl rfl ?_
   |(refine e_append rfl rfl rfl rfl rfl rfl rfl rfl ?_ rfl ?_ ?_ ?_ ?_; (focus (first|rfl|(simp only [List.length_append,List.length_map,List.length_cons,List.length_nil,Nat.zero_add])|exact List.length_map _)); (focus (repeat' first|exact len_lit rfl|(refine len_map ?_; intro _; rfl)|refine len_app ?_ ?_)); (focus (repeat' first|exact len_lit rfl|(refine len_map ?_; intro _; rfl)|refine len_app ?_ ?_)); (focus (constructor<;>first|omega|(simp only [List.length_append,List.length_map,List.length_cons,List.length_nil] at *; omega))))
   |refine e_one rfl rfl rfl rfl rfl ?_
   |refine e_end rfl ?_
   )
  |(simp (disch:=assumption) only [decide_eq_true,decide_eq_false])
  |(refine ⟨_,(_,_,_),?_,?_,H⟩; (focus omega); refine ⟨rfl,?_,?_,rfl,?_,rfl,rfl⟩)
  |(replace H:=(id H:spec_SpanText.j0 k _ _=_); cases k; (focus (exfalso; revert H; simp [spec_SpanText.j0]; done)); rename_i k; unfold spec_SpanText.j0 at H; try dsimp only at H)
  |(replace H:=(id H:spec_SpanText.j1 k _ _=_); cases k; (focus (exfalso; revert H; simp [spec_SpanText.j1]; done)); rename_i k; unfold spec_SpanText.j1 at H; try dsimp only at H)
  |(refine ⟨_,(_,_,_,_,_,_,_,_),?_,?_,H⟩; (focus omega); refine ⟨rfl,?_,?_,rfl,?_,rfl,rfl⟩)
  |(replace H:=(id H:spec_AmountText.j0 k _ _=_); cases k; (focus (exfalso; revert H; simp [spec_AmountText.j0]; done)); rename_i k; unfold spec_AmountText.j0 at H; try dsimp only at H)
  |(refine ⟨_,(_,_,_,_,_,_),?_,?_,H⟩; (focus omega); refine ⟨rfl,?_,?_,rfl,?_,rfl,rfl⟩)
  |(refine ⟨_,(_,_,_,_,_,_,_),?_,?_,H⟩; (focus omega); refine ⟨rfl,?_,?_,rfl,?_,rfl,rfl⟩)
  |(obtain rfl:=Option.some.inj H)
  |exact fq1b (.inr rfl) rfl (by first|exact res_tmp rfl|exact res_cell rfl rfl rfl) rfl rfl rfl (.inl rfl)
  |exact fq1b (.inr rfl) rfl (by first|exact res_tmp rfl|exact res_cell rfl rfl rfl) rfl rfl rfl (.inr ⟨_,_,rfl,by decide⟩)
  |exact W1.same _
  |exact W1.no _ _
  |exact W1.any _ rfl
  |exact sub3_nil
  |(refine sub3_cons rfl ?_ ?_)
  |(simp only [lit_list,wrapK_i64,wrapK_i32,wrapK_u8,wrap64_u8,Int.reduceToNat,Int.toNat_natCast])
  |(simp only [List.map_append,List.map_cons,List.map_nil,Int.zero_sub,wrapK_u8,wrap64_u8,L25_eq,L32_eq,c25_eq,c32_eq]; first|exact W1.same _|exact W1.no _ _|exact W1.any _ rfl)
  |(simp only [List.length_append,List.length_map,List.length_cons,List.length_nil]; rfl)
  |(simp (disch:=assumption) only [if_pos,if_neg] at H)
  |(simp only [Option.bind_some] at H)
  |(simp only [beq_dec,bne_dec,decide_eq_true_eq] at H)
  |(have hh:=ite_none_ H; clear H; obtain ⟨hc,H⟩:=hh)
  |(have hh:=ite_none2_ H; clear H; obtain ⟨hc,H⟩:=hh)
  |(refine (ite_some_ H).elim (fun hh=>?_) (fun hh=>?_)<;>clear H<;>obtain ⟨hc,H⟩:=hh<;>first|(cases H; done)|(cases hc; done)|(exact absurd rfl hc)|(subst hc; done)|rw [decide_eq_true hc]|rw [decide_eq_false hc]|rw [@decide_eq_true _ (_) hc]|rw [@decide_eq_false _ (_) hc]|subst hc|(obtain rfl:=Bool.eq_false_iff.2 hc)|rw [hc]|rw [Bool.eq_false_iff.2 hc])
  |(simp only [bne_dec,beq_dec])
theorem spec_IntOf_fn:spec_IntOf_P:=grp_spec_IntOf.1
theorem spec_Digits_fn:spec_Digits_P:=grp_spec_IntOf.2.1
theorem spec_SpanText_fn:spec_SpanText_P:=grp_spec_IntOf.2.2.1 spec_Digits_fn
theorem spec_TextOf_fn:spec_TextOf_P:=grp_spec_IntOf.2.2.2.1
theorem spec_l7Map_fn:spec_l7Map_P:=grp_spec_IntOf.2.2.2.2.1
theorem spec_PaceTree_fn:spec_PaceTree_P:=grp_spec_IntOf.2.2.2.2.2.1 spec_IntOf_fn spec_SpanText_fn spec_TextOf_fn spec_l7Map_fn
theorem spec_l7Head_fn:spec_l7Head_P:=grp_spec_IntOf.2.2.2.2.2.2.1 spec_IntOf_fn spec_TextOf_fn spec_l7Map_fn
theorem spec_AmountText_fn:spec_AmountText_P:=grp_spec_IntOf.2.2.2.2.2.2.2.1 spec_Digits_fn
theorem spec_l7Kind_fn:spec_l7Kind_P:=grp_spec_IntOf.2.2.2.2.2.2.2.2.1
theorem spec_MetricTree_fn:spec_MetricTree_P:=grp_spec_IntOf.2.2.2.2.2.2.2.2.2.1 spec_TextOf_fn spec_l7Map_fn spec_AmountText_fn spec_l7Kind_fn
theorem spec_l7Metrics_fn:spec_l7Metrics_P:=grp_spec_IntOf.2.2.2.2.2.2.2.2.2.2.1 spec_MetricTree_fn
theorem spec_l7Notes_fn:spec_l7Notes_P:=grp_spec_IntOf.2.2.2.2.2.2.2.2.2.2.2.1 spec_TextOf_fn
abbrev spec_l1Max_P:Prop:=∀ {a0:Int} {a1:Int} {r:Int} (H:spec_l1Max.f a0 a1=some r),Fn Tryz.prog 138 [.val (.int .i64 a0),.val (.int .i64 a1)] [] (.val (.int .i64 r)) []
abbrev spec_l3Keys_P:Prop:=∀ {k:Nat} {l0:List ByteArray} {r:Bool} (H:spec_l3Keys.f k l0=some r),Fn Tryz.prog 140 [.row (l0.map (cS)) .no] [] (.val (.bool r)) []
abbrev spec_l3Leaf_P:Prop:=∀ {k:Nat} {a0_0:Int} {a0_1:Int} {a0_2:ByteArray} {l0_3:List ByteArray} {l0_4:List (S32)} {r:Bool} (H:spec_l3Leaf.f k a0_0 a0_1 a0_2 l0_3 l0_4=some r),Fn Tryz.prog 139 [.agg [.val (.int .i64 a0_0),.val (.int .i64 a0_1),.val (.string a0_2),.row (l0_3.map (cS)) .no,.row (l0_4.map (c32)) .no]] [] (.val (.bool r)) []
abbrev spec_Quote_P:Prop:=∀ {k:Nat} {a0:ByteArray} {r:ByteArray} (H:spec_Quote.f k a0=some r),Fn Tryz.prog 170 [.val (.string a0)] [] (.val (.string r)) []
abbrev spec_PaceNew_P:Prop:=∀ {r:_} (H:spec_PaceNew.f=some r),Fn Tryz.prog 134 [] [] (.agg [.val (.int .i64 r.1),.val (.int .i64 r.2.1),.val (.int .i64 r.2.2.1),.val (.int .i64 r.2.2.2)]) []
set_option maxHeartbeats 16000000 in
theorem grp_spec_l1Max:(spec_l1Max_P)∧(spec_l3Keys_P)∧(spec_l3Leaf_P)∧(spec_Quote_P)∧(spec_PaceNew_P):=by
 refine ⟨?_,?_,?_,?_,?_⟩
 intro a0 a1 r H; refine w_fn (n:=10) Tryz.func138 rfl rfl rfl rfl rfl ?_; unfold spec_l1Max.f at H; try dsimp only at H
 rotate_left
 intro k l0 r H; refine w_fn (n:=32) Tryz.func140 rfl rfl rfl rfl rfl ?_; unfold spec_l3Keys.f at H; try dsimp only at H
 rotate_left
 intro k a0_0 a0_1 a0_2 l0_3 l0_4 r H; refine w_fn (n:=55) Tryz.func139 rfl rfl rfl rfl rfl ?_; unfold spec_l3Leaf.f at H; try dsimp only at H
 rotate_left
 intro k a0 r H; refine w_fn (n:=38) Tryz.func170 rfl rfl rfl rfl rfl ?_; unfold spec_Quote.f at H; try dsimp only at H
 rotate_left
 intro r H; refine w_fn (n:=2) Tryz.func134 rfl rfl rfl rfl rfl ?_; unfold spec_PaceNew.f at H; try dsimp only at H
 rotate_left
 repeat' first
  |exact WB.nil _
  |refine WB.cons ?_ ?_
  |exact WL.nil
  |refine WL.cons ?_ ?_
  |exact W1.same _
  |exact W1.no _ _
  |exact W1.any _ rfl
  |exact sub3_nil
  |refine sub3_cons rfl ?_ ?_
  |rfl
  |(refine one_id ?_; first
   |refine s_move rfl ?_
   |refine s_load rfl rfl rfl ?_
   |refine s_fldb rfl ?_
   |refine s_add64 rfl rfl ?_
   |refine s_sub64 rfl rfl ?_
   |refine s_bin rfl rfl rfl ?_
   |refine s_assign rfl ?_
   |refine s_pick rfl rfl ?_
   |refine s_loadr rfl rfl rfl ?_
   |refine s_not rfl ?_
   |refine s_lens rfl ?_
   |refine s_lenm rfl ?_
   |(refine s_bt rfl rfl ?_ ?_ ?_; (focus (first|assumption|decide|omega)); (focus (first|assumption|decide|omega)))
   |refine s_ixS rfl rfl ‹_› ‹_› rfl ?_
   |(refine s_ixS rfl rfl ?_ ?_ rfl ?_; (focus (first|assumption|decide|omega)); (focus (first|assumption|decide|omega)))
   |refine s_tostr1 rfl ?_
   |refine s_lit rfl rfl rfl rfl ?_
   |refine s_build rfl ?_
   |(have hb:=Option.bind_eq_some_iff.1 H; clear H; obtain ⟨t,hA,H⟩:=hb; refine s_call rfl (by first|exact spec_TextOk_fn hA|exact spec_l1In_fn hA) (by first|rfl|(simp only [L25_eq,L32_eq,c25_eq,c32_eq]; rfl)|(simp only [List.map_cons,List.map_nil,L25_eq,L32_eq,c25_eq,c32_eq]; rfl)) rfl rfl rfl ?_)
   )
  |(refine q_id ?_; first
   |refine q_box rfl rfl rfl rfl rfl rfl rfl ?_
   |refine q_alloc rfl rfl rfl rfl rfl ?_
   |(refine q_append rfl rfl rfl rfl rfl rfl rfl rfl ?_ rfl ?_ ?_ ?_ ?_; (focus (first|rfl|(simp only [List.length_append,List.length_map,List.length_cons,List.length_nil,Nat.zero_add])|exact List.length_map _)); (focus (repeat' first|exact len_lit rfl|(refine len_map ?_; intro _; rfl)|refine len_app ?_ ?_)); (focus (repeat' first|exact len_lit rfl|(refine len_map ?_; intro _; rfl)|refine len_app ?_ ?_)); (focus (constructor<;>first|omega|(simp only [List.length_append,List.length_map,List.length_cons,List.length_nil] at *; omega))))
   |refine q_litown 8 rfl rfl rfl rfl rfl rfl rfl rfl rfl ?_
   |refine q_one rfl rfl rfl rfl rfl ?_
   |refine q_nil rfl ?_
   |refine q_store rfl rfl rfl rfl rfl rfl rfl rfl rfl rfl ?_
   |(refine q_run rfl rfl rfl rfl ?_ rfl rfl ?_; focus (first|with_reducible rfl|(simp only [Bool.not_true,Bool.not_false]; done)))
   |(refine q_skip rfl rfl rfl rfl ?_ rfl rfl ?_; focus (first|with_reducible rfl|(simp only [Bool.not_true,Bool.not_false]; done)))
   )
  |(refine w_id ?_; first
   |refine w_seq rfl ?_
   |refine w_region rfl ?_
   |refine w_block rfl ?_
   |refine w_ret rfl ?_
   |refine w_skip rfl ?_
   |refine w_exit rfl ?_
   |(refine w_true rfl rfl ?_ ?_; focus (first|with_reducible rfl|(simp only [Bool.not_true,Bool.not_false]; done)))
   |(refine w_false rfl rfl ?_ ?_; focus (first|with_reducible rfl|(simp only [Bool.not_true,Bool.not_false]; done)))
   |refine w_draw (c:=cl (cl (cl (cr (cl (cl (cr (cl (cr (bo Tryz.f140)))))))))) 22 [] rfl (by kernel_rfl) rfl ?_
   |(refine w_loop3 (fun (v:(List ByteArray) × (Int))=>⟨32,[(0,.row (v.1.map cS) .no),(3,.val (.int .i64 v.2))],[],[]⟩) (fun k v=>spec_l3Keys.l0 k v.1 v.2) _ (_,_) rfl (fun _=>rfl) (fun _ _=>rfl) ⟨rfl,?_,?_,rfl,?_,rfl,rfl⟩ rfl H ?_; rotate_right; clear H; rintro k ⟨x0,x3⟩ hk H; simp only [spec_l3Keys.l0] at H; dsimp only)
   |((try refine w_ownt 3 5 1 rfl rfl ?_); refine w_loop3 (fun (v:(ByteArray) × (List Int) × (Int))=>⟨38,[(0,.val (.string v.1)),(3,.row (v.2.1.map (cI .u8)) (.own 0)),(4,.val (.int .i64 v.2.2))],[],[(v.2.1.length,5,1)]⟩) (fun k v=>spec_Quote.l0 k v.1 v.2.1 v.2.2) _ (_,_,_) rfl (fun _=>rfl) (fun _ _=>rfl) ⟨rfl,?_,?_,rfl,?_,rfl,rfl⟩ rfl H ?_; rotate_right; clear H; rintro k ⟨x0,x3,x4⟩ hk H; simp only [spec_Quote.l0] at H; dsimp only)
   )
  |(refine t_id ?_; first
   |refine t_norm ?_
   |refine t_exit ?_
   |refine t_ret ?_
   )
  |(refine b_id ?_; first
   |refine b_here ?_
   |refine b_norm ?_
   |refine b_ret ?_
   )
  |(refine e_id ?_; first
   |refine e_one rfl rfl rfl rfl rfl ?_
   |refine e_end rfl ?_
   |(refine e_run rfl rfl rfl rfl ?_ rfl rfl ?_; focus (first|with_reducible rfl|(simp only [Bool.not_true,Bool.not_false]; done)))
   |(refine e_skip rfl rfl rfl rfl ?_ rfl rfl ?_; focus (first|with_reducible rfl|(simp only [Bool.not_true,Bool.not_false]; done)))
   |refine e_dead rfl rfl rfl rfl rfl rfl ?_
   )
  |(simp (disch:=assumption) only [decide_eq_true,decide_eq_false])
  |(refine ⟨_,(_,_),?_,?_,H⟩; (focus omega); refine ⟨rfl,?_,?_,rfl,?_,rfl,rfl⟩)
  |(replace H:=(id H:spec_l3Leaf.j0 k _ _ _ _ _ _=_); cases k; (focus (exfalso; revert H; simp [spec_l3Leaf.j0]; done)); rename_i k; unfold spec_l3Leaf.j0 at H; try dsimp only at H)
  |(refine ⟨_,(_,_,_),?_,?_,H⟩; (focus omega); refine ⟨rfl,?_,?_,rfl,?_,rfl,rfl⟩)
  |(obtain rfl:=Option.some.inj H)
  |exact fq1b (.inr rfl) rfl (by first|exact res_tmp rfl|exact res_cell rfl rfl rfl) rfl rfl rfl (.inl rfl)
  |exact fq1b (.inr rfl) rfl (by first|exact res_tmp rfl|exact res_cell rfl rfl rfl) rfl rfl rfl (.inr ⟨_,_,rfl,by decide⟩)
  |exact W1.same _
  |exact W1.no _ _
  |exact W1.any _ rfl
  |exact sub3_nil
  |(refine sub3_cons rfl ?_ ?_)
  |(simp only [lit_list,wrapK_i64,wrapK_i32,wrapK_u8,wrap64_u8,Int.reduceToNat,Int.toNat_natCast])
  |(simp only [List.map_append,List.map_cons,List.map_nil,Int.zero_sub,wrapK_u8,wrap64_u8,L25_eq,L32_eq,c25_eq,c32_eq]; first|exact W1.same _|exact W1.no _ _|exact W1.any _ rfl)
  |(simp only [List.length_append,List.length_map,List.length_cons,List.length_nil]; rfl)
  |(simp (disch:=assumption) only [if_pos,if_neg] at H)
  |(simp only [Option.bind_some] at H)
  |(simp only [beq_dec,bne_dec,decide_eq_true_eq] at H)
  |(have hh:=ite_none_ H; clear H; obtain ⟨hc,H⟩:=hh)
  |(have hh:=ite_none2_ H; clear H; obtain ⟨hc,H⟩:=hh)
  |(refine (ite_some_ H).elim (fun hh=>?_) (fun hh=>?_)<;>clear H<;>obtain ⟨hc,H⟩:=hh<;>first|(cases H; done)|(cases hc; done)|(exact absurd rfl hc)|(subst hc; done)|rw [decide_eq_true hc]|rw [decide_eq_false hc]|rw [@decide_eq_true _ (_) hc]|rw [@decide_eq_false _ (_) hc]|subst hc|(obtain rfl:=Bool.eq_false_iff.2 hc)|rw [hc]|rw [Bool.eq_false_iff.2 hc])
  |(simp only [bne_dec,beq_dec])
theorem spec_l1Max_fn:spec_l1Max_P:=grp_spec_l1Max.1
theorem spec_l3Keys_fn:spec_l3Keys_P:=grp_spec_l1Max.2.1
theorem spec_l3Leaf_fn:spec_l3Leaf_P:=grp_spec_l1Max.2.2.1
theorem spec_Quote_fn:spec_Quote_P:=grp_spec_l1Max.2.2.2.1
theorem spec_PaceNew_fn:spec_PaceNew_P:=grp_spec_l1Max.2.2.2.2
set_option maxHeartbeats 4000000 in
theorem spec_l3Deep_fn {k:Nat} {a0_0:Int} {a0_1:Int} {a0_2:ByteArray} {l0_3:List ByteArray} {l0_4:List (S32)} {r:Int} (H:spec_l3Deep.f k a0_0 a0_1 a0_2 l0_3 l0_4=some r):Fn Tryz.prog 87 [.agg [.val (.int .i64 a0_0),.val (.int .i64 a0_1),.val (.string a0_2),.row (l0_3.map (cS)) .no,.row (l0_4.map (c32)) .no]] [] (.val (.int .i64 r)) []:=by
 induction k using Nat.strongRecOn generalizing a0_0 a0_1 a0_2 l0_3 l0_4 r with
 |_ k ih =>
 cases k
 ·simp [spec_l3Deep.f] at H
 rename_i k
 refine w_fn (n:=22) Tryz.func87 rfl rfl rfl rfl rfl ?_
 unfold spec_l3Deep.f at H; try dsimp only at H
 repeat' first
  |exact WB.nil _
  |refine WB.cons ?_ ?_
  |exact WL.nil
  |refine WL.cons ?_ ?_
  |exact W1.same _
  |exact W1.no _ _
  |exact W1.any _ rfl
  |exact sub3_nil
  |refine sub3_cons rfl ?_ ?_
  |rfl
  |(refine one_id ?_; first
   |refine s_move rfl ?_
   |refine s_load rfl rfl rfl ?_
   |refine s_fldb rfl ?_
   |refine s_add64 rfl rfl ?_
   |refine s_bin rfl rfl rfl ?_
   |refine s_assign rfl ?_
   |refine s_loadr rfl rfl rfl ?_
   |refine s_lenm rfl ?_
   |refine s_ix32 rfl rfl ‹_› ‹_› rfl ?_
   |(refine s_ix32 rfl rfl ?_ ?_ rfl ?_; (focus (first|assumption|decide|omega)); (focus (first|assumption|decide|omega)))
   |(have hb:=Option.bind_eq_some_iff.1 H; clear H; obtain ⟨t,hA,H⟩:=hb; refine s_call rfl (by first|exact ih _ (by omega) hA|exact spec_l1Max_fn hA) (by first|rfl|(simp only [L25_eq,L32_eq,c25_eq,c32_eq]; rfl)|(simp only [List.map_cons,List.map_nil,L25_eq,L32_eq,c25_eq,c32_eq]; rfl)) rfl rfl rfl ?_)
   )
  |(refine q_id ?_; first
   |refine q_box rfl rfl rfl rfl rfl rfl rfl ?_
   |refine q_one rfl rfl rfl rfl rfl ?_
   |refine q_nil rfl ?_
   )
  |(refine w_id ?_; first
   |refine w_seq rfl ?_
   |refine w_region rfl ?_
   |refine w_block rfl ?_
   |refine w_ret rfl ?_
   |refine w_skip rfl ?_
   |refine w_exit rfl ?_
   |(refine w_true rfl rfl ?_ ?_; focus (first|with_reducible rfl|(simp only [Bool.not_true,Bool.not_false]; done)))
   |(refine w_false rfl rfl ?_ ?_; focus (first|with_reducible rfl|(simp only [Bool.not_true,Bool.not_false]; done)))
   |(refine w_loop3 (fun (v:(Int) × (Int) × (Int) × (Int) × (ByteArray) × (List ByteArray) × (List (S32)))=>⟨22,[(3,.val (.int .i64 v.1)),(4,.val (.int .i64 v.2.1)),(1,.ptr 0 0)],[[.val (.int .i64 v.2.2.1),.val (.int .i64 v.2.2.2.1),.val (.string v.2.2.2.2.1),.row (v.2.2.2.2.2.1.map cS) .no,.row (v.2.2.2.2.2.2.map c32) .no]],[]⟩) (fun k v=>spec_l3Deep.l0 k v.1 v.2.1 v.2.2.1 v.2.2.2.1 v.2.2.2.2.1 v.2.2.2.2.2.1 v.2.2.2.2.2.2) _ (_,_,_,_,_,_,_) rfl (fun _=>rfl) (fun _ _=>rfl) ⟨rfl,?_,?_,rfl,?_,rfl,rfl⟩ rfl H ?_; rotate_right; clear H; rintro k ⟨x3,x4,x108000,x108001,x108002,x108003,x108004⟩ hk H; simp only [spec_l3Deep.l0] at H; dsimp only)
   )
  |(refine t_id ?_; first
   |refine t_norm ?_
   |refine t_exit ?_
   )
  |(refine b_id ?_; first
   |refine b_here ?_
   |refine b_norm ?_
   )
  |(simp (disch:=assumption) only [decide_eq_true,decide_eq_false])
  |(refine ⟨_,(_,_,_,_,_,_,_),?_,?_,H⟩; (focus omega); refine ⟨rfl,?_,?_,rfl,?_,rfl,rfl⟩)
  |(obtain rfl:=Option.some.inj H)
  |exact fq1b (.inr rfl) rfl (by first|exact res_tmp rfl|exact res_cell rfl rfl rfl) rfl rfl rfl (.inl rfl)
  |exact fq1b (.inr rfl) rfl (by first|exact res_tmp rfl|exact res_cell rfl rfl rfl) rfl rfl rfl (.inr ⟨_,_,rfl,by decide⟩)
  |exact W1.same _
  |exact W1.no _ _
  |exact W1.any _ rfl
  |exact sub3_nil
  |(refine sub3_cons rfl ?_ ?_)
  |(simp only [lit_list,wrapK_i64,wrapK_i32,wrapK_u8,wrap64_u8,Int.reduceToNat,Int.toNat_natCast])
  |(simp only [List.map_append,List.map_cons,List.map_nil,Int.zero_sub,wrapK_u8,wrap64_u8,L25_eq,L32_eq,c25_eq,c32_eq]; first|exact W1.same _|exact W1.no _ _|exact W1.any _ rfl)
  |(simp only [List.length_append,List.length_map,List.length_cons,List.length_nil]; rfl)
  |(simp (disch:=assumption) only [if_pos,if_neg] at H)
  |(simp only [Option.bind_some] at H)
  |(simp only [beq_dec,bne_dec,decide_eq_true_eq] at H)
  |(have hh:=ite_none_ H; clear H; obtain ⟨hc,H⟩:=hh)
  |(have hh:=ite_none2_ H; clear H; obtain ⟨hc,H⟩:=hh)
  |(refine (ite_some_ H).elim (fun hh=>?_) (fun hh=>?_)<;>clear H<;>obtain ⟨hc,H⟩:=hh<;>first|(cases H; done)|(cases hc; done)|(exact absurd rfl hc)|(subst hc; done)|rw [decide_eq_true hc]|rw [decide_eq_false hc]|rw [@decide_eq_true _ (_) hc]|rw [@decide_eq_false _ (_) hc]|subst hc|(obtain rfl:=Bool.eq_false_iff.2 hc)|rw [hc]|rw [Bool.eq_false_iff.2 hc])
  |(simp only [bne_dec,beq_dec])
set_option maxHeartbeats 4000000 in
theorem spec_l3Right_fn {k:Nat} {a0_0:Int} {a0_1:Int} {a0_2:ByteArray} {l0_3:List ByteArray} {l0_4:List (S32)} {r:Bool} (H:spec_l3Right.f k a0_0 a0_1 a0_2 l0_3 l0_4=some r):Fn Tryz.prog 89 [.agg [.val (.int .i64 a0_0),.val (.int .i64 a0_1),.val (.string a0_2),.row (l0_3.map (cS)) .no,.row (l0_4.map (c32)) .no]] [] (.val (.bool r)) []:=by
 induction k using Nat.strongRecOn generalizing a0_0 a0_1 a0_2 l0_3 l0_4 r with
 |_ k ih =>
 cases k
 ·simp [spec_l3Right.f] at H
 rename_i k
 refine w_fn (n:=67) Tryz.func89 rfl rfl rfl rfl rfl ?_
 unfold spec_l3Right.f at H; try dsimp only at H
 repeat' first
  |exact WB.nil _
  |refine WB.cons ?_ ?_
  |exact WL.nil
  |refine WL.cons ?_ ?_
  |exact W1.same _
  |exact W1.no _ _
  |exact W1.any _ rfl
  |exact sub3_nil
  |refine sub3_cons rfl ?_ ?_
  |rfl
  |(refine one_id ?_; first
   |refine s_move rfl ?_
   |refine s_load rfl rfl rfl ?_
   |refine s_fldb rfl ?_
   |refine s_add64 rfl rfl ?_
   |refine s_bin rfl rfl rfl ?_
   |refine s_assign rfl ?_
   |refine s_pick rfl rfl ?_
   |refine s_loadr rfl rfl rfl ?_
   |refine s_not rfl ?_
   |refine s_lenm rfl ?_
   |refine s_ix32 rfl rfl ‹_› ‹_› rfl ?_
   |(refine s_ix32 rfl rfl ?_ ?_ rfl ?_; (focus (first|assumption|decide|omega)); (focus (first|assumption|decide|omega)))
   |(have hb:=Option.bind_eq_some_iff.1 H; clear H; obtain ⟨t,hA,H⟩:=hb; refine s_call rfl (by first|exact ih _ (by omega) hA|exact spec_l3Keys_fn hA|exact spec_l3Leaf_fn hA) (by first|rfl|(simp only [L25_eq,L32_eq,c25_eq,c32_eq]; rfl)|(simp only [List.map_cons,List.map_nil,L25_eq,L32_eq,c25_eq,c32_eq]; rfl)) rfl rfl rfl ?_)
   )
  |(refine q_id ?_; first
   |refine q_box rfl rfl rfl rfl rfl rfl rfl ?_
   |refine q_one rfl rfl rfl rfl rfl ?_
   |refine q_nil rfl ?_
   |(refine q_run rfl rfl rfl rfl ?_ rfl rfl ?_; focus (first|with_reducible rfl|(simp only [Bool.not_true,Bool.not_false]; done)))
   |(refine q_skip rfl rfl rfl rfl ?_ rfl rfl ?_; focus (first|with_reducible rfl|(simp only [Bool.not_true,Bool.not_false]; done)))
   |refine q_dead rfl rfl rfl rfl rfl rfl ?_
   )
  |(refine w_id ?_; first
   |refine w_seq rfl ?_
   |refine w_region rfl ?_
   |refine w_block rfl ?_
   |refine w_ret rfl ?_
   |refine w_skip rfl ?_
   |refine w_exit rfl ?_
   |(refine w_true rfl rfl ?_ ?_; focus (first|with_reducible rfl|(simp only [Bool.not_true,Bool.not_false]; done)))
   |(refine w_false rfl rfl ?_ ?_; focus (first|with_reducible rfl|(simp only [Bool.not_true,Bool.not_false]; done)))
   |(refine w_loop3 (fun (v:(Int) × (Int) × (Int) × (ByteArray) × (List ByteArray) × (List (S32)))=>⟨67,[(3,.val (.int .i64 v.1)),(1,.ptr 0 0)],[[.val (.int .i64 v.2.1),.val (.int .i64 v.2.2.1),.val (.string v.2.2.2.1),.row (v.2.2.2.2.1.map cS) .no,.row (v.2.2.2.2.2.map c32) .no]],[]⟩) (fun k v=>spec_l3Right.l0 k v.1 v.2.1 v.2.2.1 v.2.2.2.1 v.2.2.2.2.1 v.2.2.2.2.2) _ (_,_,_,_,_,_) rfl (fun _=>rfl) (fun _ _=>rfl) ⟨rfl,?_,?_,rfl,?_,rfl,rfl⟩ rfl H ?_; rotate_right; clear H; rintro k ⟨x3,x123000,x123001,x123002,x123003,x123004⟩ hk H; simp only [spec_l3Right.l0] at H; dsimp only)
   )
  |(refine t_id ?_; first
   |refine t_norm ?_
   |refine t_exit ?_
   |refine t_ret ?_
   )
  |(refine b_id ?_; first
   |refine b_here ?_
   |refine b_norm ?_
   |refine b_ret ?_
   )
  |(simp (disch:=assumption) only [decide_eq_true,decide_eq_false])
  |(refine ⟨_,(_,_,_,_,_,_),?_,?_,H⟩; (focus omega); refine ⟨rfl,?_,?_,rfl,?_,rfl,rfl⟩)
  |(replace H:=(id H:spec_l3Right.j0 k _ _ _ _ _ _=_); cases k; (focus (exfalso; revert H; simp [spec_l3Right.j0]; done)); rename_i k; unfold spec_l3Right.j0 at H; try dsimp only at H)
  |(replace H:=(id H:spec_l3Right.j1 k _ _ _ _ _ _=_); cases k; (focus (exfalso; revert H; simp [spec_l3Right.j1]; done)); rename_i k; unfold spec_l3Right.j1 at H; try dsimp only at H)
  |(obtain rfl:=Option.some.inj H)
  |exact fq1b (.inr rfl) rfl (by first|exact res_tmp rfl|exact res_cell rfl rfl rfl) rfl rfl rfl (.inl rfl)
  |exact fq1b (.inr rfl) rfl (by first|exact res_tmp rfl|exact res_cell rfl rfl rfl) rfl rfl rfl (.inr ⟨_,_,rfl,by decide⟩)
  |exact W1.same _
  |exact W1.no _ _
  |exact W1.any _ rfl
  |exact sub3_nil
  |(refine sub3_cons rfl ?_ ?_)
  |(simp only [lit_list,wrapK_i64,wrapK_i32,wrapK_u8,wrap64_u8,Int.reduceToNat,Int.toNat_natCast])
  |(simp only [List.map_append,List.map_cons,List.map_nil,Int.zero_sub,wrapK_u8,wrap64_u8,L25_eq,L32_eq,c25_eq,c32_eq]; first|exact W1.same _|exact W1.no _ _|exact W1.any _ rfl)
  |(simp only [List.length_append,List.length_map,List.length_cons,List.length_nil]; rfl)
  |(simp (disch:=assumption) only [if_pos,if_neg] at H)
  |(simp only [Option.bind_some] at H)
  |(simp only [beq_dec,bne_dec,decide_eq_true_eq] at H)
  |(have hh:=ite_none_ H; clear H; obtain ⟨hc,H⟩:=hh)
  |(have hh:=ite_none2_ H; clear H; obtain ⟨hc,H⟩:=hh)
  |(refine (ite_some_ H).elim (fun hh=>?_) (fun hh=>?_)<;>clear H<;>obtain ⟨hc,H⟩:=hh<;>first|(cases H; done)|(cases hc; done)|(exact absurd rfl hc)|(subst hc; done)|rw [decide_eq_true hc]|rw [decide_eq_false hc]|rw [@decide_eq_true _ (_) hc]|rw [@decide_eq_false _ (_) hc]|subst hc|(obtain rfl:=Bool.eq_false_iff.2 hc)|rw [hc]|rw [Bool.eq_false_iff.2 hc])
  |(simp only [bne_dec,beq_dec])
set_option maxHeartbeats 4000000 in
theorem spec_l3Size_fn {k:Nat} {a0_0:Int} {a0_1:Int} {a0_2:ByteArray} {l0_3:List ByteArray} {l0_4:List (S32)} {r:Int} (H:spec_l3Size.f k a0_0 a0_1 a0_2 l0_3 l0_4=some r):Fn Tryz.prog 88 [.agg [.val (.int .i64 a0_0),.val (.int .i64 a0_1),.val (.string a0_2),.row (l0_3.map (cS)) .no,.row (l0_4.map (c32)) .no]] [] (.val (.int .i64 r)) []:=by
 induction k using Nat.strongRecOn generalizing a0_0 a0_1 a0_2 l0_3 l0_4 r with
 |_ k ih =>
 cases k
 ·simp [spec_l3Size.f] at H
 rename_i k
 refine w_fn (n:=21) Tryz.func88 rfl rfl rfl rfl rfl ?_
 unfold spec_l3Size.f at H; try dsimp only at H
 repeat' first
  |exact WB.nil _
  |refine WB.cons ?_ ?_
  |exact WL.nil
  |refine WL.cons ?_ ?_
  |exact W1.same _
  |exact W1.no _ _
  |exact W1.any _ rfl
  |exact sub3_nil
  |refine sub3_cons rfl ?_ ?_
  |rfl
  |(refine one_id ?_; first
   |refine s_move rfl ?_
   |refine s_load rfl rfl rfl ?_
   |refine s_fldb rfl ?_
   |refine s_add64 rfl rfl ?_
   |refine s_bin rfl rfl rfl ?_
   |refine s_assign rfl ?_
   |refine s_loadr rfl rfl rfl ?_
   |refine s_lenm rfl ?_
   |refine s_ix32 rfl rfl ‹_› ‹_› rfl ?_
   |(refine s_ix32 rfl rfl ?_ ?_ rfl ?_; (focus (first|assumption|decide|omega)); (focus (first|assumption|decide|omega)))
   |(have hb:=Option.bind_eq_some_iff.1 H; clear H; obtain ⟨t,hA,H⟩:=hb; refine s_call rfl (by first|exact ih _ (by omega) hA) (by first|rfl|(simp only [L25_eq,L32_eq,c25_eq,c32_eq]; rfl)|(simp only [List.map_cons,List.map_nil,L25_eq,L32_eq,c25_eq,c32_eq]; rfl)) rfl rfl rfl ?_)
   )
  |(refine q_id ?_; first
   |refine q_box rfl rfl rfl rfl rfl rfl rfl ?_
   |refine q_one rfl rfl rfl rfl rfl ?_
   |refine q_nil rfl ?_
   )
  |(refine w_id ?_; first
   |refine w_seq rfl ?_
   |refine w_region rfl ?_
   |refine w_block rfl ?_
   |refine w_ret rfl ?_
   |refine w_skip rfl ?_
   |refine w_exit rfl ?_
   |(refine w_true rfl rfl ?_ ?_; focus (first|with_reducible rfl|(simp only [Bool.not_true,Bool.not_false]; done)))
   |(refine w_false rfl rfl ?_ ?_; focus (first|with_reducible rfl|(simp only [Bool.not_true,Bool.not_false]; done)))
   |(refine w_loop3 (fun (v:(Int) × (Int) × (Int) × (Int) × (ByteArray) × (List ByteArray) × (List (S32)))=>⟨21,[(3,.val (.int .i64 v.1)),(4,.val (.int .i64 v.2.1)),(1,.ptr 0 0)],[[.val (.int .i64 v.2.2.1),.val (.int .i64 v.2.2.2.1),.val (.string v.2.2.2.2.1),.row (v.2.2.2.2.2.1.map cS) .no,.row (v.2.2.2.2.2.2.map c32) .no]],[]⟩) (fun k v=>spec_l3Size.l0 k v.1 v.2.1 v.2.2.1 v.2.2.2.1 v.2.2.2.2.1 v.2.2.2.2.2.1 v.2.2.2.2.2.2) _ (_,_,_,_,_,_,_) rfl (fun _=>rfl) (fun _ _=>rfl) ⟨rfl,?_,?_,rfl,?_,rfl,rfl⟩ rfl H ?_; rotate_right; clear H; rintro k ⟨x3,x4,x112000,x112001,x112002,x112003,x112004⟩ hk H; simp only [spec_l3Size.l0] at H; dsimp only)
   )
  |(refine t_id ?_; first
   |refine t_norm ?_
   |refine t_exit ?_
   )
  |(refine b_id ?_; first
   |refine b_here ?_
   |refine b_norm ?_
   )
  |(simp (disch:=assumption) only [decide_eq_true,decide_eq_false])
  |(refine ⟨_,(_,_,_,_,_,_,_),?_,?_,H⟩; (focus omega); refine ⟨rfl,?_,?_,rfl,?_,rfl,rfl⟩)
  |(obtain rfl:=Option.some.inj H)
  |exact fq1b (.inr rfl) rfl (by first|exact res_tmp rfl|exact res_cell rfl rfl rfl) rfl rfl rfl (.inl rfl)
  |exact fq1b (.inr rfl) rfl (by first|exact res_tmp rfl|exact res_cell rfl rfl rfl) rfl rfl rfl (.inr ⟨_,_,rfl,by decide⟩)
  |exact W1.same _
  |exact W1.no _ _
  |exact W1.any _ rfl
  |exact sub3_nil
  |(refine sub3_cons rfl ?_ ?_)
  |(simp only [lit_list,wrapK_i64,wrapK_i32,wrapK_u8,wrap64_u8,Int.reduceToNat,Int.toNat_natCast])
  |(simp only [List.map_append,List.map_cons,List.map_nil,Int.zero_sub,wrapK_u8,wrap64_u8,L25_eq,L32_eq,c25_eq,c32_eq]; first|exact W1.same _|exact W1.no _ _|exact W1.any _ rfl)
  |(simp only [List.length_append,List.length_map,List.length_cons,List.length_nil]; rfl)
  |(simp (disch:=assumption) only [if_pos,if_neg] at H)
  |(simp only [Option.bind_some] at H)
  |(simp only [beq_dec,bne_dec,decide_eq_true_eq] at H)
  |(have hh:=ite_none_ H; clear H; obtain ⟨hc,H⟩:=hh)
  |(have hh:=ite_none2_ H; clear H; obtain ⟨hc,H⟩:=hh)
  |(refine (ite_some_ H).elim (fun hh=>?_) (fun hh=>?_)<;>clear H<;>obtain ⟨hc,H⟩:=hh<;>first|(cases H; done)|(cases hc; done)|(exact absurd rfl hc)|(subst hc; done)|rw [decide_eq_true hc]|rw [decide_eq_false hc]|rw [@decide_eq_true _ (_) hc]|rw [@decide_eq_false _ (_) hc]|subst hc|(obtain rfl:=Bool.eq_false_iff.2 hc)|rw [hc]|rw [Bool.eq_false_iff.2 hc])
  |(simp only [bne_dec,beq_dec])
set_option maxHeartbeats 4000000 in
theorem spec_TreeOk_fn {k:Nat} {a0_0:Int} {a0_1:Int} {a0_2:ByteArray} {l0_3:List ByteArray} {l0_4:List (S32)} {r:Bool} (H:spec_TreeOk.f k a0_0 a0_1 a0_2 l0_3 l0_4=some r):Fn Tryz.prog 32 [.agg [.val (.int .i64 a0_0),.val (.int .i64 a0_1),.val (.string a0_2),.row (l0_3.map (cS)) .no,.row (l0_4.map (c32)) .no]] [] (.val (.bool r)) []:=by
 refine w_fn (n:=15) Tryz.func32 rfl rfl rfl rfl rfl ?_
 unfold spec_TreeOk.f at H
 repeat' first
  |(refine one_id ?_; first
   |refine s_move rfl ?_
   |refine s_load rfl rfl rfl ?_
   |refine s_bin rfl rfl rfl ?_
   |refine s_assign rfl ?_
   |refine s_pick rfl rfl ?_
   |(have hb:=Option.bind_eq_some_iff.1 H; clear H; obtain ⟨t,hA,H⟩:=hb; refine s_call rfl (by first|exact spec_l3Deep_fn hA|exact spec_l3Right_fn hA|exact spec_l3Size_fn hA) (by first|rfl|(simp only [L25_eq,L32_eq,c25_eq,c32_eq]; rfl)|(simp only [List.map_cons,List.map_nil,L25_eq,L32_eq,c25_eq,c32_eq]; rfl)) rfl rfl rfl ?_)
   )
  |(refine q_id ?_; first
   |refine q_box rfl rfl rfl rfl rfl rfl rfl ?_
   |refine q_one rfl rfl rfl rfl rfl ?_
   |refine q_nil rfl ?_
   |(refine q_run rfl rfl rfl rfl ?_ rfl rfl ?_; focus (first|with_reducible rfl|(simp only [Bool.not_true,Bool.not_false]; done)))
   |(refine q_skip rfl rfl rfl rfl ?_ rfl rfl ?_; focus (first|with_reducible rfl|(simp only [Bool.not_true,Bool.not_false]; done)))
   )
  |(refine w_id ?_; first
   |refine w_seq rfl ?_
   |refine w_region rfl ?_
   |refine w_ret rfl ?_
   )
  |(refine t_id ?_; first
   |refine t_norm ?_
   )
  |(simp (disch:=assumption) only [decide_eq_true,decide_eq_false])
  |(obtain rfl:=Option.some.inj H)
  |exact fq1b (.inr rfl) rfl (by first|exact res_tmp rfl|exact res_cell rfl rfl rfl) rfl rfl rfl (.inl rfl)
  |exact fq1b (.inr rfl) rfl (by first|exact res_tmp rfl|exact res_cell rfl rfl rfl) rfl rfl rfl (.inr ⟨_,_,rfl,by decide⟩)
  |exact W1.same _
  |exact W1.no _ _
  |exact W1.any _ rfl
  |exact sub3_nil
  |(simp only [lit_list,wrapK_i64,wrapK_i32,wrapK_u8,wrap64_u8,Int.reduceToNat,Int.toNat_natCast])
  |(simp (disch:=assumption) only [if_pos,if_neg] at H)
  |(simp only [Option.bind_some] at H)
  |(simp only [beq_dec,bne_dec,decide_eq_true_eq] at H)
  |(have hh:=ite_none_ H; clear H; obtain ⟨hc,H⟩:=hh)
  |(have hh:=ite_none2_ H; clear H; obtain ⟨hc,H⟩:=hh)
  |(refine (ite_some_ H).elim (fun hh=>?_) (fun hh=>?_)<;>clear H<;>obtain ⟨hc,H⟩:=hh<;>first|(cases H; done)|(cases hc; done)|(exact absurd rfl hc)|(subst hc; done)|rw [decide_eq_true hc]|rw [decide_eq_false hc]|rw [@decide_eq_true _ (_) hc]|rw [@decide_eq_false _ (_) hc]|subst hc|(obtain rfl:=Bool.eq_false_iff.2 hc)|rw [hc]|rw [Bool.eq_false_iff.2 hc])
  |(simp only [bne_dec,beq_dec])
set_option maxHeartbeats 4000000 in
theorem spec_l4Text_fn {k:Nat} {a0_0:Int} {a0_1:Int} {a0_2:ByteArray} {l0_3:List ByteArray} {l0_4:List (S32)} {r:ByteArray} (H:spec_l4Text.f k a0_0 a0_1 a0_2 l0_3 l0_4=some r):Fn Tryz.prog 136 [.agg [.val (.int .i64 a0_0),.val (.int .i64 a0_1),.val (.string a0_2),.row (l0_3.map (cS)) .no,.row (l0_4.map (c32)) .no]] [] (.val (.string r)) []:=by
 induction k using Nat.strongRecOn generalizing a0_0 a0_1 a0_2 l0_3 l0_4 r with
 |_ k ih =>
 cases k
 ·simp [spec_l4Text.f] at H
 rename_i k
 refine w_fn (n:=64) Tryz.func136 rfl rfl rfl rfl rfl ?_
 unfold spec_l4Text.f at H; try dsimp only at H
 repeat' first
  |exact WB.nil _
  |refine WB.cons ?_ ?_
  |exact WL.nil
  |refine WL.cons ?_ ?_
  |exact W1.same _
  |exact W1.no _ _
  |exact W1.any _ rfl
  |exact sub3_nil
  |refine sub3_cons rfl ?_ ?_
  |rfl
  |(refine one_id ?_; first
   |refine s_move rfl ?_
   |refine s_load rfl rfl rfl ?_
   |refine s_fldb rfl ?_
   |refine s_add64 rfl rfl ?_
   |refine s_bin rfl rfl rfl ?_
   |refine s_assign rfl ?_
   |refine s_loadr rfl rfl rfl ?_
   |refine s_lenm rfl ?_
   |refine s_ixS rfl rfl ‹_› ‹_› rfl ?_
   |(refine s_ixS rfl rfl ?_ ?_ rfl ?_; (focus (first|assumption|decide|omega)); (focus (first|assumption|decide|omega)))
   |refine s_ix32 rfl rfl ‹_› ‹_› rfl ?_
   |(refine s_ix32 rfl rfl ?_ ?_ rfl ?_; (focus (first|assumption|decide|omega)); (focus (first|assumption|decide|omega)))
   |(refine s_cat rfl rfl ?_ ?_; (focus (first|assumption|omega)))
   |(have hb:=Option.bind_eq_some_iff.1 H; clear H; obtain ⟨t,hA,H⟩:=hb; refine s_call rfl (by first|exact ih _ (by omega) hA|exact spec_Digits_fn hA|exact spec_Quote_fn hA) (by first|rfl|(simp only [L25_eq,L32_eq,c25_eq,c32_eq]; rfl)|(simp only [List.map_cons,List.map_nil,L25_eq,L32_eq,c25_eq,c32_eq]; rfl)) rfl rfl rfl ?_)
   )
  |(refine q_id ?_; first
   |refine q_box rfl rfl rfl rfl rfl rfl rfl ?_
   |refine q_one rfl rfl rfl rfl rfl ?_
   |refine q_nil rfl ?_
   )
  |(refine w_id ?_; first
   |refine w_seq rfl ?_
   |refine w_region rfl ?_
   |refine w_block rfl ?_
   |refine w_ret rfl ?_
   |refine w_skip rfl ?_
   |refine w_exit rfl ?_
   |(refine w_true rfl rfl ?_ ?_; focus (first|with_reducible rfl|(simp only [Bool.not_true,Bool.not_false]; done)))
   |(refine w_false rfl rfl ?_ ?_; focus (first|with_reducible rfl|(simp only [Bool.not_true,Bool.not_false]; done)))
   |(refine w_loop3 (fun (v:(ByteArray) × (ByteArray) × (Int) × (Int) × (Int) × (ByteArray) × (List ByteArray) × (List (S32)))=>⟨64,[(4,.val (.string v.1)),(5,.val (.string v.2.1)),(6,.val (.int .i64 v.2.2.1)),(1,.ptr 0 0)],[[.val (.int .i64 v.2.2.2.1),.val (.int .i64 v.2.2.2.2.1),.val (.string v.2.2.2.2.2.1),.row (v.2.2.2.2.2.2.1.map cS) .no,.row (v.2.2.2.2.2.2.2.map c32) .no]],[]⟩) (fun k v=>spec_l4Text.l0 k v.1 v.2.1 v.2.2.1 v.2.2.2.1 v.2.2.2.2.1 v.2.2.2.2.2.1 v.2.2.2.2.2.2.1 v.2.2.2.2.2.2.2) _ (_,_,_,_,_,_,_,_) rfl (fun _=>rfl) (fun _ _=>rfl) ⟨rfl,?_,?_,rfl,?_,rfl,rfl⟩ rfl H ?_; rotate_right; clear H; rintro k ⟨x4,x5,x6,x1298000,x1298001,x1298002,x1298003,x1298004⟩ hk H; simp only [spec_l4Text.l0] at H; dsimp only)
   )
  |(refine t_id ?_; first
   |refine t_norm ?_
   |refine t_exit ?_
   |refine t_ret ?_
   )
  |(refine b_id ?_; first
   |refine b_here ?_
   |refine b_norm ?_
   |refine b_ret ?_
   )
  |(simp (disch:=assumption) only [decide_eq_true,decide_eq_false])
  |(refine ⟨_,(_,_,_,_,_,_,_,_),?_,?_,H⟩; (focus omega); refine ⟨rfl,?_,?_,rfl,?_,rfl,rfl⟩)
  |(replace H:=(id H:spec_l4Text.j0 k _ _ _ _ _ _ _=_); cases k; (focus (exfalso; revert H; simp [spec_l4Text.j0]; done)); rename_i k; unfold spec_l4Text.j0 at H; try dsimp only at H)
  |(replace H:=(id H:spec_l4Text.j2 k _ _ _ _ _ _ _ _=_); cases k; (focus (exfalso; revert H; simp [spec_l4Text.j2]; done)); rename_i k; unfold spec_l4Text.j2 at H; try dsimp only at H)
  |(obtain rfl:=Option.some.inj H)
  |exact fq1b (.inr rfl) rfl (by first|exact res_tmp rfl|exact res_cell rfl rfl rfl) rfl rfl rfl (.inl rfl)
  |exact fq1b (.inr rfl) rfl (by first|exact res_tmp rfl|exact res_cell rfl rfl rfl) rfl rfl rfl (.inr ⟨_,_,rfl,by decide⟩)
  |exact W1.same _
  |exact W1.no _ _
  |exact W1.any _ rfl
  |exact sub3_nil
  |(refine sub3_cons rfl ?_ ?_)
  |(simp only [lit_list,wrapK_i64,wrapK_i32,wrapK_u8,wrap64_u8,Int.reduceToNat,Int.toNat_natCast])
  |(simp only [List.map_append,List.map_cons,List.map_nil,Int.zero_sub,wrapK_u8,wrap64_u8,L25_eq,L32_eq,c25_eq,c32_eq]; first|exact W1.same _|exact W1.no _ _|exact W1.any _ rfl)
  |(simp only [List.length_append,List.length_map,List.length_cons,List.length_nil]; rfl)
  |(simp (disch:=assumption) only [if_pos,if_neg] at H)
  |(simp only [Option.bind_some] at H)
  |(simp only [beq_dec,bne_dec,decide_eq_true_eq] at H)
  |(have hh:=ite_none_ H; clear H; obtain ⟨hc,H⟩:=hh)
  |(have hh:=ite_none2_ H; clear H; obtain ⟨hc,H⟩:=hh)
  |(refine (ite_some_ H).elim (fun hh=>?_) (fun hh=>?_)<;>clear H<;>obtain ⟨hc,H⟩:=hh<;>first|(cases H; done)|(cases hc; done)|(exact absurd rfl hc)|(subst hc; done)|rw [decide_eq_true hc]|rw [decide_eq_false hc]|rw [@decide_eq_true _ (_) hc]|rw [@decide_eq_false _ (_) hc]|subst hc|(obtain rfl:=Bool.eq_false_iff.2 hc)|rw [hc]|rw [Bool.eq_false_iff.2 hc])
  |(simp only [bne_dec,beq_dec])
theorem rec47_run (x0 y0:Int) (x1 y1:Int) (x2 y2:Int) (x3 y3:Int) (w:World):(Op.equal 47 (.agg #[.int .i64 x0,.int .i64 x1,.int .i64 x2,.int .i64 x3]) (.agg #[.int .i64 y0,.int .i64 y1,.int .i64 y2,.int .i64 y3])).run Tryz.prog w=.ok (x0 == y0 && (x1 == y1 && (x2 == y2 && (x3 == y3)))) w:=by
 show (Op.equalIn 10000 47 _ _).run _ _=_
 refine PrintWords.eqA_of Tryz.underlying47 (by kernel_rfl) ?_
 refine PrintWords.eqf_cons (by rfl) (by go_simp; rfl) (by go_simp; rfl) (by go_simp) ?_
 refine PrintWords.eqf_cons (by rfl) (by go_simp; rfl) (by go_simp; rfl) (by go_simp) ?_
 refine PrintWords.eqf_cons (by rfl) (by go_simp; rfl) (by go_simp; rfl) (by go_simp) ?_
 exact PrintWords.eqf_last (by rfl) (by go_simp; rfl) (by go_simp; rfl) (by go_simp)
theorem rec47_ne (x0 y0:Int) (x1 y1:Int) (x2 y2:Int) (x3 y3:Int):(!(x0 == y0 && (x1 == y1 && (x2 == y2 && (x3 == y3)))))=(!decide (x0=y0) || (!decide (x1=y1) || (!decide (x2=y2) || (!decide (x3=y3))))):=by simp only [Bool.not_and,beq_dec]
abbrev spec_Braced_P:Prop:=∀ {k:Nat} {a0_0:Int} {a0_1:Int} {a0_2:ByteArray} {l0_3:List ByteArray} {l0_4:List (S32)} {r:ByteArray} (H:spec_Braced.f k a0_0 a0_1 a0_2 l0_3 l0_4=some r),Fn Tryz.prog 79 [.agg [.val (.int .i64 a0_0),.val (.int .i64 a0_1),.val (.string a0_2),.row (l0_3.map (cS)) .no,.row (l0_4.map (c32)) .no]] [] (.val (.string r)) []
abbrev spec_l8Saved_P:Prop:=∀ {k:Nat} {a0_0:ByteArray} {a0_1:ByteArray} {a0_2:Int} {a0_3:Int} {l0_4:List (S61)} {a0_5:Int} {a0_6:Int} {a0_7:Int} {a0_8:Int} {l0_9:List (S124)} {r:_} (H:spec_l8Saved.f k a0_0 a0_1 a0_2 a0_3 l0_4 a0_5 a0_6 a0_7 a0_8 l0_9=some r),Fn Tryz.prog 73 [.agg [.val (.string a0_0),.val (.string a0_1),.val (.int .i64 a0_2),.val (.int .i64 a0_3),.row (l0_4.map (c61)) .no,.val (.int .i64 a0_5),.val (.int .i64 a0_6),.val (.int .i64 a0_7),.val (.int .i64 a0_8),.row (l0_9.map (c124)) .no]] [] (.agg [.val (.int .i64 r.1),.val (.int .i64 r.2.1),.val (.string r.2.2.1),.row (r.2.2.2.1.map (cS)) .no,.row (r.2.2.2.2.map (c32)) .no]) []
abbrev spec_MidTree_P:Prop:=∀ {k:Nat} {a0_0:ByteArray} {a0_1:ByteArray} {a0_2:Int} {a0_3:Int} {l0_4:List (S61)} {a0_5:Int} {a0_6:Int} {a0_7:Int} {a0_8:Int} {l0_9:List (S124)} {r:_} (H:spec_MidTree.f k a0_0 a0_1 a0_2 a0_3 l0_4 a0_5 a0_6 a0_7 a0_8 l0_9=some r),Fn Tryz.prog 24 [.agg [.val (.string a0_0),.val (.string a0_1),.val (.int .i64 a0_2),.val (.int .i64 a0_3),.row (l0_4.map (c61)) .no,.val (.int .i64 a0_5),.val (.int .i64 a0_6),.val (.int .i64 a0_7),.val (.int .i64 a0_8),.row (l0_9.map (c124)) .no]] [] (.agg [.val (.int .i64 r.1),.val (.int .i64 r.2.1),.val (.string r.2.2.1),.row (r.2.2.2.1.map (cS)) .no,.row (r.2.2.2.2.map (c32)) .no]) []
set_option maxHeartbeats 16000000 in
theorem grp_spec_Braced:(spec_Braced_P)∧(spec_Braced_P→spec_l8Saved_P)∧(spec_l8Saved_P→spec_MidTree_P):=by
 refine ⟨?_,?_,?_⟩
 intro k a0_0 a0_1 a0_2 l0_3 l0_4 r H; refine w_fn (n:=8) Tryz.func79 rfl rfl rfl rfl rfl ?_; unfold spec_Braced.f at H; try dsimp only at H
 rotate_left
 intro q_spec_Braced k a0_0 a0_1 a0_2 a0_3 l0_4 a0_5 a0_6 a0_7 a0_8 l0_9 r H; refine w_fn (n:=19) Tryz.func73 rfl rfl rfl rfl rfl ?_; unfold spec_l8Saved.f at H; try dsimp only at H
 rotate_left
 intro q_spec_l8Saved k a0_0 a0_1 a0_2 a0_3 l0_4 a0_5 a0_6 a0_7 a0_8 l0_9 r H; refine w_fn (n:=18) Tryz.func24 rfl rfl rfl rfl rfl ?_; unfold spec_MidTree.f at H; try dsimp only at H
 rotate_left
 repeat' first
  |(refine one_id ?_; first
   |refine s_load rfl rfl rfl ?_
   |refine s_fldb rfl ?_
   |refine s_assign rfl ?_
   |refine s_not rfl ?_
   |refine s_build rfl ?_
   |(have hb:=Option.bind_eq_some_iff.1 H; clear H; obtain ⟨t,hA,H⟩:=hb; refine s_call rfl (by first|exact spec_OrderOk_fn hA|exact spec_PaceNew_fn hA|exact spec_PaceTree_fn hA|exact spec_Set_fn hA|exact spec_TextOf_fn hA|exact spec_TreeOk_fn hA|exact spec_l4Text_fn hA|exact spec_l7Head_fn hA|exact spec_l7Metrics_fn hA|exact spec_l7Notes_fn hA|exact q_spec_Braced hA|exact q_spec_l8Saved hA) (by first|rfl|(simp only [L25_eq,L32_eq,c25_eq,c32_eq]; rfl)|(simp only [List.map_cons,List.map_nil,L25_eq,L32_eq,c25_eq,c32_eq]; rfl)) rfl rfl rfl ?_)
   |refine s_recne rfl rfl rfl rfl (rec47_run _ _ _ _ _ _ _ _) (rec47_ne _ _ _ _ _ _ _ _) ?_
   )
  |(refine q_id ?_; first
   |refine q_box rfl rfl rfl rfl rfl rfl rfl ?_
   |refine q_alloc rfl rfl rfl rfl rfl ?_
   |refine q_one rfl rfl rfl rfl rfl ?_
   |refine q_nil rfl ?_
   |refine q_store rfl rfl rfl rfl rfl rfl rfl rfl rfl rfl ?_
   )
  |(refine w_id ?_; first
   |refine w_seq rfl ?_
   |refine w_region rfl ?_
   |refine w_ret rfl ?_
   |refine w_skip rfl ?_
   |(refine w_true rfl rfl ?_ ?_; focus (first|with_reducible rfl|(simp only [Bool.not_true,Bool.not_false]; done)))
   |(refine w_false rfl rfl ?_ ?_; focus (first|with_reducible rfl|(simp only [Bool.not_true,Bool.not_false]; done)))
   |refine w_draw (c:=cl (cl (cr (cr (bo Tryz.f73))))) 4 [] rfl (by kernel_rfl) rfl ?_
   |refine w_draw (c:=cl (cl (cr (cl (cr (cr (bo Tryz.f73))))))) 7 [] rfl (by kernel_rfl) rfl ?_
   |refine w_draw (c:=cl (cr (cr (bo Tryz.f24)))) 7 [[(.val (.int .i64 0)),(.val (.int .i64 0)),(.val (.string ⟨#[]⟩)),(.row [] .nil),(.row [] .nil)]] rfl (by kernel_rfl) rfl ?_
   |refine w_draw (c:=cl (cr (cr (cr (bo Tryz.f24))))) 4 [] rfl (by kernel_rfl) rfl ?_
   )
  |(refine t_id ?_; first
   |refine t_norm ?_
   |refine t_ret ?_
   )
  |(refine e_id ?_; first
   |refine e_alloc rfl rfl rfl rfl rfl rfl ?_
   |refine e_one rfl rfl rfl rfl rfl ?_
   |refine e_end rfl ?_
   )
  |(simp (disch:=assumption) only [decide_eq_true,decide_eq_false])
  |(obtain rfl:=Option.some.inj H)
  |exact fq1b (.inr rfl) rfl (by first|exact res_tmp rfl|exact res_cell rfl rfl rfl) rfl rfl rfl (.inl rfl)
  |exact fq1b (.inr rfl) rfl (by first|exact res_tmp rfl|exact res_cell rfl rfl rfl) rfl rfl rfl (.inr ⟨_,_,rfl,by decide⟩)
  |exact W1.same _
  |exact W1.no _ _
  |exact W1.any _ rfl
  |exact sub3_nil
  |(simp only [lit_list,wrapK_i64,wrapK_i32,wrapK_u8,wrap64_u8,Int.reduceToNat,Int.toNat_natCast])
  |(simp (disch:=assumption) only [if_pos,if_neg] at H)
  |(simp only [Option.bind_some] at H)
  |(simp only [beq_dec,bne_dec,decide_eq_true_eq] at H)
  |(have hh:=ite_none_ H; clear H; obtain ⟨hc,H⟩:=hh)
  |(have hh:=ite_none2_ H; clear H; obtain ⟨hc,H⟩:=hh)
  |(refine (ite_some_ H).elim (fun hh=>?_) (fun hh=>?_)<;>clear H<;>obtain ⟨hc,H⟩:=hh<;>first|(cases H; done)|(cases hc; done)|(exact absurd rfl hc)|(subst hc; done)|rw [decide_eq_true hc]|rw [decide_eq_false hc]|rw [@decide_eq_true _ (_) hc]|rw [@decide_eq_false _ (_) hc]|subst hc|(obtain rfl:=Bool.eq_false_iff.2 hc)|rw [hc]|rw [Bool.eq_false_iff.2 hc])
  |(simp only [bne_dec,beq_dec])
theorem spec_Braced_fn:spec_Braced_P:=grp_spec_Braced.1
theorem spec_l8Saved_fn:spec_l8Saved_P:=grp_spec_Braced.2.1 spec_Braced_fn
theorem spec_MidTree_fn:spec_MidTree_P:=grp_spec_Braced.2.2 spec_l8Saved_fn
end Go.Proofs.YtdlhidjphaaklaaGreat.V
end
section
namespace Go.Proofs.YtdlhidjphaaklaaGreat.P
open Go.RowKit Go.Proofs.YtdlhidjphaaklaaGreatW.PrintWords Go.Proofs.YtdlhidjphaaklaaGreatW.PrintLast Go.Proofs.YtdlhidjphaaklaaGreatW.PrintMore
def impl_isMap.f (a0_0:Int) (a0_1:Int) (a0_2:ByteArray) (l0_3:List ByteArray) (l0_4:List (S32)):Option (Bool):=if a0_0=5 then (some ((l0_3.length:Int) == (l0_4.length:Int))) else (some false)
set_option maxHeartbeats 8000000 in
set_option maxRecDepth 100000 in
theorem impl_isMap.calls (a0_0:Int) (a0_1:Int) (a0_2:ByteArray) (A0_3:Option Addr) (c0_3:Nat) (l0_3:List ByteArray) (A0_4:Option Addr) (c0_4:Nat) (l0_4:List (S32)) (r:Bool) (w:World) (hr0_3:Kd.C Kd.string w A0_3 l0_3.length l0_3) (hc0_3:l0_3.length≤c0_3) (hr0_4:Kd.C k32 w A0_4 l0_4.length l0_4) (hc0_4:l0_4.length≤c0_4) (h:impl_isMap.f a0_0 a0_1 a0_2 l0_3 l0_4=some r) :
    Calls Tryz.prog 125 #[.agg #[.int .i64 a0_0,.int .i64 a0_1,.string a0_2,.slice A0_3 l0_3.length c0_3,.slice A0_4 l0_4.length c0_4]] w fun e w'=>e=.returned (.bool r)∧Below w.heap.size w w':=by
  have huN:=Tryz.underlying32
  have HR0_3:=Aside0.mk hr0_3
  have HC0_3:=Aside0.mk hc0_3
  clear hr0_3 hc0_3
  have HR0_4:=Aside0.mk hr0_4
  have HC0_4:=Aside0.mk hc0_4
  clear hr0_4 hc0_4
  have HB:=Aside0.mk (Below.refl w.heap.size w)
  have H:(if a0_0=5 then (some ((l0_3.length:Int) == (l0_4.length:Int))) else (some false))=some r:=h
  clear h
  by_cases c2:a0_0=5
  · rw [if_pos c2] at H
    have c2b0:(a0_0 == 5)=true:=beq_iff_eq.mpr c2
    have c2b1:(a0_0 != 5)=false:=bne_eq_false_iff_eq.mpr c2
    clear c2
    obtain rfl:=Option.some.inj H
    go_enter Tryz.func125,Tryz.ntmps125
    go_wp2_with (first | ((with_reducible refine gate_dst (N:=1) rfl ?_); (try (refine gate_guard (by rfl) ?_; dsimp only)); refine box_event ?hg (N:=1) ?hd (cs:=#[.int .i64 a0_0,.int .i64 a0_1,.string a0_2,.slice A0_3 l0_3.length c0_3,.slice A0_4 l0_4.length c0_4]) (t:=32) ?hr ?_; (case hd=>rfl); (case hg=>rfl); (case hr=>first | (go_simp; done) | (go_simp; rfl)); intro gb747 hg w3 hbox hb; have n0_:=Aside0.mk (below_step (by repeat (first | (with_reducible first | exact HB.out | apply below_alloc | apply pw_below_drewN | apply below_drew1) | exact HB.out)) hb); have n1_:=Aside0.mk (hbox); have n2_:=Aside0.mk ((by rw [hg]; exact (below_size (by repeat (first | (with_reducible first | exact HB.out | apply below_alloc | apply pw_below_drewN | apply below_drew1) | exact HB.out))):w.heap.size≤gb747)); have n3_:=Aside0.mk ((by rw [hg]; exact (below_size (by repeat (first | (with_reducible first | exact HB.out | apply below_alloc | apply pw_below_drewN | apply below_drew1) | exact HB.out))):w.heap.size≤gb747)); clear HB; have HB:=n0_; have BK747:=n1_; have GW747:=n2_; have GE747:=n3_; clear n0_ n1_ n2_ n3_; clear hb hbox hg; have hcz4_0:w3.cell? ⟨gb747,0,none⟩=some (.int .i64 a0_0):=(blk_cell BK747.out 0).trans rfl; have hcz4_1:w3.cell? ⟨gb747,1,none⟩=some (.int .i64 a0_1):=(blk_cell BK747.out 1).trans rfl; have hcz4_2:w3.cell? ⟨gb747,2,none⟩=some (.string a0_2):=(blk_cell BK747.out 2).trans rfl; have hcz4_3:w3.cell? ⟨gb747,3,none⟩=some (.slice A0_3 l0_3.length c0_3):=(blk_cell BK747.out 3).trans rfl; have hcz4_4:w3.cell? ⟨gb747,4,none⟩=some (.slice A0_4 l0_4.length c0_4):=(blk_cell BK747.out 4).trans rfl; have hfz4_0:=blk_frozen BK747.out 0; have hfz4_1:=blk_frozen BK747.out 1; have hfz4_2:=blk_frozen BK747.out 2; have hfz4_3:=blk_frozen BK747.out 3; have hfz4_4:=blk_frozen BK747.out 4))
    go_ret
    exact ⟨by first | rfl | (simp [errW_none,errW_some] <;> rfl) | (simp [*,errW_none,errW_some] <;> rfl),by repeat (first | (with_reducible first | exact HB.out | apply below_alloc | apply pw_below_drewN | apply below_drew1 | refine below_set ?_ GE747.out) | exact HB.out)⟩
  · rw [if_neg c2] at H
    have c2b0:(a0_0 == 5)=false:=beq_eq_false_iff_ne.mpr c2
    have c2b1:(a0_0 != 5)=true:=bne_iff_ne.mpr c2
    obtain rfl:=Option.some.inj H
    go_enter Tryz.func125,Tryz.ntmps125
    go_wp2_with (first | ((with_reducible refine gate_dst (N:=1) rfl ?_); (try (refine gate_guard (by rfl) ?_; dsimp only)); refine box_event ?hg (N:=1) ?hd (cs:=#[.int .i64 a0_0,.int .i64 a0_1,.string a0_2,.slice A0_3 l0_3.length c0_3,.slice A0_4 l0_4.length c0_4]) (t:=32) ?hr ?_; (case hd=>rfl); (case hg=>rfl); (case hr=>first | (go_simp; done) | (go_simp; rfl)); intro gb747 hg w5 hbox hb; have n0_:=Aside0.mk (below_step (by repeat (first | (with_reducible first | exact HB.out | apply below_alloc | apply pw_below_drewN | apply below_drew1) | exact HB.out)) hb); have n1_:=Aside0.mk (hbox); have n2_:=Aside0.mk ((by rw [hg]; exact (below_size (by repeat (first | (with_reducible first | exact HB.out | apply below_alloc | apply pw_below_drewN | apply below_drew1) | exact HB.out))):w.heap.size≤gb747)); have n3_:=Aside0.mk ((by rw [hg]; exact (below_size (by repeat (first | (with_reducible first | exact HB.out | apply below_alloc | apply pw_below_drewN | apply below_drew1) | exact HB.out))):w.heap.size≤gb747)); clear HB; have HB:=n0_; have BK747:=n1_; have GW747:=n2_; have GE747:=n3_; clear n0_ n1_ n2_ n3_; clear hb hbox hg; have hcz6_0:w5.cell? ⟨gb747,0,none⟩=some (.int .i64 a0_0):=(blk_cell BK747.out 0).trans rfl; have hcz6_1:w5.cell? ⟨gb747,1,none⟩=some (.int .i64 a0_1):=(blk_cell BK747.out 1).trans rfl; have hcz6_2:w5.cell? ⟨gb747,2,none⟩=some (.string a0_2):=(blk_cell BK747.out 2).trans rfl; have hcz6_3:w5.cell? ⟨gb747,3,none⟩=some (.slice A0_3 l0_3.length c0_3):=(blk_cell BK747.out 3).trans rfl; have hcz6_4:w5.cell? ⟨gb747,4,none⟩=some (.slice A0_4 l0_4.length c0_4):=(blk_cell BK747.out 4).trans rfl; have hfz6_0:=blk_frozen BK747.out 0; have hfz6_1:=blk_frozen BK747.out 1; have hfz6_2:=blk_frozen BK747.out 2; have hfz6_3:=blk_frozen BK747.out 3; have hfz6_4:=blk_frozen BK747.out 4))
    go_ret
    exact ⟨by first | rfl | (simp [errW_none,errW_some] <;> rfl) | (simp [*,errW_none,errW_some] <;> rfl),by repeat (first | (with_reducible first | exact HB.out | apply below_alloc | apply pw_below_drewN | apply below_drew1 | refine below_set ?_ GE747.out) | exact HB.out)⟩
end Go.Proofs.YtdlhidjphaaklaaGreat.P
namespace Go.Proofs.YtdlhidjphaaklaaGreat.H
open Go.RowKit Go.Proofs.YtdlhidjphaaklaaGreat.P Go.Proofs.YtdlhidjphaaklaaGreatW.PrintWords
theorem isMap_calls (x:S32) {w:World} {v3 v4:Value} (h:Seen w v3 v4 x) (b:Bool) (hb:b=(decide (x.f0=5) && decide (x.f3.length=x.f4.length))) :
    Calls Tryz.prog 125 #[.agg #[.int .i64 x.f0,.int .i64 x.f1,.string x.f2,v3,v4]] w fun e w'=>e=.returned (.bool b)∧Below w.heap.size w w':=by
  obtain ⟨A3,c3,A4,c4,rfl,rfl,g3,l3,g4,l4⟩:=h
  refine impl_isMap.calls _ _ _ _ _ _ _ _ _ b w g3 l3 g4 l4 ?_
  unfold impl_isMap.f
  rw [hb]
  by_cases h5:x.f0=5
  · rw [if_pos h5, decide_eq_true h5, Bool.true_and]
    by_cases h6:x.f3.length=x.f4.length
    · rw [decide_eq_true h6,h6]; simp
    · rw [decide_eq_false h6]
      have:¬ (x.f3.length:Int)=(x.f4.length:Int):=fun e=>h6 (by omega)
      simp [this]
  · rw [if_neg h5,decide_eq_false h5,Bool.false_and]
end Go.Proofs.YtdlhidjphaaklaaGreat.H
end
section
namespace Go.Proofs.YtdlhidjphaaklaaGreat.H
open Go.RowKit Go.Proofs.YtdlhidjphaaklaaGreat.P Go.Proofs.YtdlhidjphaaklaaGreatW.PrintWords Go.Proofs.YtdlhidjphaaklaaGreatW.PrintLast Go.Proofs.YtdlhidjphaaklaaGreat.M
theorem row_form {w:World} {b e s n:Nat} {v:Value} {xs:List Value} (h:w.ownsRow b e s v n xs):∃ A m c,v=.slice A m c:=by
 rcases h.2 with ⟨rfl,_⟩|⟨g,cap,cur,rfl,_⟩<;>exact ⟨_,_,_,rfl⟩
set_option maxHeartbeats 16000000 in
set_option maxRecDepth 100000 in
theorem set_calls (x:S32) (key:ByteArray) (y:S32) (hc:cntTop x≤1099511627776) (hcy:cntTop y≤1099511627776) (A3 A4 C3 C4:Option Addr) (c3 c4 e3 e4:Nat) (w:World) (g3:Kd.C Kd.string w A3 x.f3.length x.f3) (l3:x.f3.length≤c3) (g4:k32.C w A4 x.f4.length x.f4) (l4:x.f4.length≤c4) (p3:Kd.C Kd.string w C3 y.f3.length y.f3) (q3:y.f3.length≤e3) (p4:k32.C w C4 y.f4.length y.f4) (q4:y.f4.length≤e4) :
  Calls Tryz.prog 64 #[.agg #[.int .i64 x.f0,.int .i64 x.f1,.string x.f2,.slice A3 x.f3.length c3,.slice A4 x.f4.length c4],.string key,.agg #[.int .i64 y.f0,.int .i64 y.f1,.string y.f2,.slice C3 y.f3.length e3,.slice C4 y.f4.length e4]] w fun e w'=>Made w (setV x key y) e w':=by
 have hu:=Tryz.underlying32
 have hl3:x.f3.length≤1099511627776:=by unfold cntTop at hc; omega
 have hl4:x.f4.length≤1099511627776:=by have:=len_cnt x.f4; unfold cntTop at hc; omega
 have G3:=Lib.hid g3
 have G4:=Lib.hid g4
 have P3:=Lib.hid p3
 have P4:=Lib.hid p4
 have HB:=Lib.hid (Below.refl w.heap.size w)
 have T0:True:=trivial
 have HCP:=Lib.hid (copy_all x hc)
 have HCY:=Lib.hid (copy_all y hcy)
 obtain ⟨kk,hkk⟩:∃ kk,kk=kInt x.f3 key:=⟨_,rfl⟩
 have HKK:=Lib.hid hkk
 obtain ⟨bm,hbm⟩:∃ bm,bm=(decide (x.f0=5) && decide (x.f3.length=x.f4.length)):=⟨_,rfl⟩
 have HBM:=Lib.hid hbm
 clear g3 g4 p3 p4 hkk hc hcy hbm
 unfold Made
 by_cases hm:bm=true
 ·by_cases h1:0≤kk
  ·skip
   have d1:decide (0≤kk)=true:=decide_eq_true h1
   have h5:x.f0=5∧x.f3.length=x.f4.length:=by have e:=HBM.out; rw [hm] at e; simpa using e.symm
   obtain ⟨i,hq,ei⟩:∃ i:Nat,kAt x.f3 key=some i∧kk=i:=by
    have e:=HKK.out
    unfold kInt at e
    cases hq:kAt x.f3 key with
    |none=>rw [hq] at e; simp only at e; omega
    |some j=>rw [hq] at e; exact ⟨j,rfl,e⟩
   have hi3:i<x.f3.length:=(kAt_some hq).1
   have HI:Hid (i<x.f4.length):=by show _<_; omega
   have hi4:i<x.f4.length:=HI.out
   have HP4:Hid (0<x.f4.length):=by show _<_; omega
   have HV:Hid (setV x key y=⟨x.f0,x.f1,x.f2,x.f3,x.f4.set i y⟩):=by show _=_; unfold setV; rw [if_pos h5,hq]
   have hz0:(0:Int)≤(i:Int):=by omega
   have hz1:(i:Int)<(x.f4.length:Int):=by omega
   subst ei
   subst hm
   clear h5 hq hi3 h1
   go_enter Tryz.func64,Tryz.ntmps64
   go_wp2_with (first
      |(clear T0; (with_reducible refine gate_dst (N:=3) rfl ?_); refine box_event rfl (N:=3) rfl (cs:=#[.int .i64 x.f0,.int .i64 x.f1,.string x.f2,.slice A3 x.f3.length c3,.slice A4 x.f4.length c4]) (t:=32) (by first|(go_simp; done)|(go_simp; rfl)) ?_; intro gt hg wt bk hb; have GEt:=Lib.hid (Nat.le_trans HB.out.size (Nat.le_of_eq hg.symm)); replace HB:=Lib.hid (HB.out.trans (hb.mono HB.out.size)); have BKt:=Lib.hid bk; clear hg bk hb; obtain ⟨t0,t1,t2,t3,t4⟩:=cells5 BKt.out; obtain ⟨ft0,ft1,ft2,ft3,ft4⟩:=free5 BKt.out; have T1:True:=trivial)
      |(clear T1; (with_reducible refine gate_dst (N:=4) rfl ?_); refine box_event rfl (N:=4) rfl (cs:=#[.string key]) (t:=9) (by first|(go_simp; done)|(go_simp; rfl)) ?_; intro gk hg wk bk hb; have GEk:=Lib.hid (Nat.le_trans HB.out.size (Nat.le_of_eq hg.symm)); have Ltk:=Lib.hid (Nat.lt_of_lt_of_le (blk_lt BKt.out) (Nat.le_of_eq hg.symm)); replace BKt:=Lib.hid (blk_below BKt.out hb); replace HB:=Lib.hid (HB.out.trans (hb.mono HB.out.size)); have BKk:=Lib.hid bk; clear hg bk hb; clear t0 t1 t2 t3 t4 ft0 ft1 ft2 ft3 ft4; obtain ⟨t0,t1,t2,t3,t4⟩:=cells5 BKt.out; obtain ⟨ft0,ft1,ft2,ft3,ft4⟩:=free5 BKt.out; have k0:=(blk_cell BKk.out 0).trans rfl; have T2:True:=trivial)
      |(clear T2; (with_reducible refine gate_dst (N:=5) rfl ?_); refine box_event rfl (N:=5) rfl (cs:=#[.int .i64 y.f0,.int .i64 y.f1,.string y.f2,.slice C3 y.f3.length e3,.slice C4 y.f4.length e4]) (t:=32) (by first|(go_simp; done)|(go_simp; rfl)) ?_; intro gy hg wy bk hb; have GEy:=Lib.hid (Nat.le_trans HB.out.size (Nat.le_of_eq hg.symm)); have Lty:=Lib.hid (Nat.lt_of_lt_of_le (blk_lt BKt.out) (Nat.le_of_eq hg.symm)); have Lky:=Lib.hid (Nat.lt_of_lt_of_le (blk_lt BKk.out) (Nat.le_of_eq hg.symm)); replace BKt:=Lib.hid (blk_below BKt.out hb); replace BKk:=Lib.hid (blk_below BKk.out hb); replace HB:=Lib.hid (HB.out.trans (hb.mono HB.out.size)); have BKy:=Lib.hid bk; clear hg bk hb; clear t0 t1 t2 t3 t4 ft0 ft1 ft2 ft3 ft4; clear k0; obtain ⟨t0,t1,t2,t3,t4⟩:=cells5 BKt.out; obtain ⟨ft0,ft1,ft2,ft3,ft4⟩:=free5 BKt.out; have k0:=(blk_cell BKk.out 0).trans rfl; obtain ⟨y0,y1,y2,y3,y4⟩:=cells5 BKy.out; obtain ⟨fy0,fy1,fy2,fy3,fy4⟩:=free5 BKy.out; have T3:True:=trivial)
      |(clear T3; (with_reducible refine gate_dst (N:=6) rfl ?_); refine box_event rfl (N:=6) rfl (cs:=#[.int .i64 0,.int .i64 0,.string ⟨#[]⟩,.slice none 0 0,.slice none 0 0]) (t:=32) (by first|(go_simp; done)|(go_simp; rfl)) ?_; intro gr hg wr bk hb; have GEr:=Lib.hid (Nat.le_trans HB.out.size (Nat.le_of_eq hg.symm)); have Ltr:=Lib.hid (Nat.lt_of_lt_of_le (blk_lt BKt.out) (Nat.le_of_eq hg.symm)); have Lkr:=Lib.hid (Nat.lt_of_lt_of_le (blk_lt BKk.out) (Nat.le_of_eq hg.symm)); have Lyr:=Lib.hid (Nat.lt_of_lt_of_le (blk_lt BKy.out) (Nat.le_of_eq hg.symm)); replace BKt:=Lib.hid (blk_below BKt.out hb); replace BKk:=Lib.hid (blk_below BKk.out hb); replace BKy:=Lib.hid (blk_below BKy.out hb); replace HB:=Lib.hid (HB.out.trans (hb.mono HB.out.size)); have BKr:=Lib.hid bk; clear hg bk hb; clear t0 t1 t2 t3 t4 ft0 ft1 ft2 ft3 ft4; clear k0; clear y0 y1 y2 y3 y4 fy0 fy1 fy2 fy3 fy4; obtain ⟨t0,t1,t2,t3,t4⟩:=cells5 BKt.out; obtain ⟨ft0,ft1,ft2,ft3,ft4⟩:=free5 BKt.out; have k0:=(blk_cell BKk.out 0).trans rfl; obtain ⟨y0,y1,y2,y3,y4⟩:=cells5 BKy.out; obtain ⟨fy0,fy1,fy2,fy3,fy4⟩:=free5 BKy.out; obtain ⟨r0,r1,r2,r3,r4⟩:=cells5 BKr.out; obtain ⟨fr0,fr1,fr2,fr3,fr4⟩:=free5 BKr.out; have T4:True:=trivial)
      |(clear T4; go_at_call 124; refine (HCP.out _ _ _ _ _ (Kd.C_below G3.out HB.out) l3 (Kd.C_below G4.out HB.out) l4).mono ?_; rintro e w1 ⟨v3,v4,fss,rfl,ht,hg,hb⟩; obtain ⟨B3,d3,rfl,m3,n3⟩:=SRow_C ht.1; have hf4:=own_form ht.2.1.choose_spec.1 HP4.out; obtain ⟨g4,d4,rfl⟩:=hf4; clear n3; have DtHT:=Lib.hid (fun k hk=>Nat.lt_of_lt_of_le (blk_lt BKt.out) (hg k hk)); have DkHT:=Lib.hid (fun k hk=>Nat.lt_of_lt_of_le (blk_lt BKk.out) (hg k hk)); have DyHT:=Lib.hid (fun k hk=>Nat.lt_of_lt_of_le (blk_lt BKy.out) (hg k hk)); have DrHT:=Lib.hid (fun k hk=>Nat.lt_of_lt_of_le (blk_lt BKr.out) (hg k hk)); have GEHT:=Lib.hid (fun k hk=>Nat.le_trans HB.out.size (hg k hk)); replace BKt:=Lib.hid (blk_below BKt.out hb); replace BKk:=Lib.hid (blk_below BKk.out hb); replace BKy:=Lib.hid (blk_below BKy.out hb); replace BKr:=Lib.hid (blk_below BKr.out hb); replace HB:=Lib.hid (HB.out.trans (hb.mono HB.out.size)); have HT:=Lib.hid ht; clear t0 t1 t2 t3 t4 ft0 ft1 ft2 ft3 ft4; clear k0; clear y0 y1 y2 y3 y4 fy0 fy1 fy2 fy3 fy4; clear r0 r1 r2 r3 r4 fr0 fr1 fr2 fr3 fr4; obtain ⟨t0,t1,t2,t3,t4⟩:=cells5 BKt.out; obtain ⟨ft0,ft1,ft2,ft3,ft4⟩:=free5 BKt.out; have k0:=(blk_cell BKk.out 0).trans rfl; obtain ⟨y0,y1,y2,y3,y4⟩:=cells5 BKy.out; obtain ⟨fy0,fy1,fy2,fy3,fy4⟩:=free5 BKy.out; obtain ⟨r0,r1,r2,r3,r4⟩:=cells5 BKr.out; obtain ⟨fr0,fr1,fr2,fr3,fr4⟩:=free5 BKr.out; clear ht hg hb; have T5:True:=trivial)
      |(clear T5; (with_reducible refine gate_store (p:=3) rfl ?_); refine store5_event rfl rfl rfl (g:=gt) (.int .i64 x.f0) (.int .i64 x.f1) (.string x.f2) (.slice B3 x.f3.length d3) (.slice (some ⟨g4,0,none⟩) x.f4.length d4) BKt.out (by first|(go_simp; done)|(go_simp; rfl)) ?_; intro w2 bk hc; replace BKk:=Lib.hid (blk_chg BKk.out hc (fun e=>Nat.ne_of_lt Ltk.out e.symm)); replace BKy:=Lib.hid (blk_chg BKy.out hc (fun e=>Nat.ne_of_lt Lty.out e.symm)); replace BKr:=Lib.hid (blk_chg BKr.out hc (fun e=>Nat.ne_of_lt Ltr.out e.symm)); replace HT:=Lib.hid (Top_chg HT.out hc (fun k hk e=>Nat.ne_of_gt (DtHT.out k hk) e)); replace HB:=Lib.hid (below_chg HB.out HB.out.size hc (fun k e=>e ▸ GEt.out)); replace BKt:=Lib.hid bk; clear t0 t1 t2 t3 t4 ft0 ft1 ft2 ft3 ft4; clear k0; clear y0 y1 y2 y3 y4 fy0 fy1 fy2 fy3 fy4; clear r0 r1 r2 r3 r4 fr0 fr1 fr2 fr3 fr4; obtain ⟨t0,t1,t2,t3,t4⟩:=cells5 BKt.out; obtain ⟨ft0,ft1,ft2,ft3,ft4⟩:=free5 BKt.out; have k0:=(blk_cell BKk.out 0).trans rfl; obtain ⟨y0,y1,y2,y3,y4⟩:=cells5 BKy.out; obtain ⟨fy0,fy1,fy2,fy3,fy4⟩:=free5 BKy.out; obtain ⟨r0,r1,r2,r3,r4⟩:=cells5 BKr.out; obtain ⟨fr0,fr1,fr2,fr3,fr4⟩:=free5 BKr.out; clear bk hc; have T6:True:=trivial)
      |(clear T6; go_at_call 125; refine (isMap_calls x (Seen.of_top HT.out) _ HBM.out).mono ?_; rintro e w3 ⟨rfl,hb⟩; replace BKt:=Lib.hid (blk_below BKt.out hb); replace BKk:=Lib.hid (blk_below BKk.out hb); replace BKy:=Lib.hid (blk_below BKy.out hb); replace BKr:=Lib.hid (blk_below BKr.out hb); replace HT:=Lib.hid (Top_below HT.out hb); replace HB:=Lib.hid (HB.out.trans (hb.mono HB.out.size)); clear t0 t1 t2 t3 t4 ft0 ft1 ft2 ft3 ft4; clear k0; clear y0 y1 y2 y3 y4 fy0 fy1 fy2 fy3 fy4; clear r0 r1 r2 r3 r4 fr0 fr1 fr2 fr3 fr4; obtain ⟨t0,t1,t2,t3,t4⟩:=cells5 BKt.out; obtain ⟨ft0,ft1,ft2,ft3,ft4⟩:=free5 BKt.out; have k0:=(blk_cell BKk.out 0).trans rfl; obtain ⟨y0,y1,y2,y3,y4⟩:=cells5 BKy.out; obtain ⟨fy0,fy1,fy2,fy3,fy4⟩:=free5 BKy.out; obtain ⟨r0,r1,r2,r3,r4⟩:=cells5 BKr.out; obtain ⟨fr0,fr1,fr2,fr3,fr4⟩:=free5 BKr.out; clear hb; have T7:True:=trivial)
      |(clear T7; go_at_call 126; refine (idx_calls _ _ x.f3 key _ (SRow_at HT.out.1)).mono ?_; rintro e w4 ⟨rfl,rfl⟩; rw [← HKK.out]; have T8:True:=trivial))
   go_region_with (clear T8; go_at_call 124; replace BKt:=Lib.hid (blk_below BKt.out (below_drew (Below.refl _ _))); replace BKk:=Lib.hid (blk_below BKk.out (below_drew (Below.refl _ _))); replace BKy:=Lib.hid (blk_below BKy.out (below_drew (Below.refl _ _))); replace BKr:=Lib.hid (blk_below BKr.out (below_drew (Below.refl _ _))); replace HT:=Lib.hid (Top_below HT.out (below_drew (Below.refl _ _))); replace HB:=Lib.hid (HB.out.trans ((below_drew (Below.refl _ _)).mono HB.out.size)); refine (HCY.out _ _ _ _ _ (Kd.C_below P3.out HB.out) q3 (Kd.C_below P4.out HB.out) q4).mono ?_; rintro e w6 ⟨z3,z4,gss,rfl,ht,hg,hb⟩; obtain ⟨E3,h3,rfl,j3,n3⟩:=SRow_C ht.1; obtain ⟨E4,h4,rfl,j4,n4⟩:=ORow_C ht.2.1; clear n3 n4; have DtHY:=Lib.hid (fun k hk=>Nat.lt_of_lt_of_le (blk_lt BKt.out) (hg k hk)); have DkHY:=Lib.hid (fun k hk=>Nat.lt_of_lt_of_le (blk_lt BKk.out) (hg k hk)); have DyHY:=Lib.hid (fun k hk=>Nat.lt_of_lt_of_le (blk_lt BKy.out) (hg k hk)); have DrHY:=Lib.hid (fun k hk=>Nat.lt_of_lt_of_le (blk_lt BKr.out) (hg k hk)); have DTY:=Lib.hid (fun k hk j hj=>Nat.lt_of_lt_of_le (Top_lt HT.out k hk) (hg j hj)); have GEHY:=Lib.hid (fun k hk=>Nat.le_trans HB.out.size (hg k hk)); replace BKt:=Lib.hid (blk_below BKt.out hb); replace BKk:=Lib.hid (blk_below BKk.out hb); replace BKy:=Lib.hid (blk_below BKy.out hb); replace BKr:=Lib.hid (blk_below BKr.out hb); replace HT:=Lib.hid (Top_below HT.out hb); replace HB:=Lib.hid (HB.out.trans (hb.mono HB.out.size)); have HY:=Lib.hid ht; clear t0 t1 t2 t3 t4 ft0 ft1 ft2 ft3 ft4; clear k0; clear y0 y1 y2 y3 y4 fy0 fy1 fy2 fy3 fy4; clear r0 r1 r2 r3 r4 fr0 fr1 fr2 fr3 fr4; obtain ⟨t0,t1,t2,t3,t4⟩:=cells5 BKt.out; obtain ⟨ft0,ft1,ft2,ft3,ft4⟩:=free5 BKt.out; have k0:=(blk_cell BKk.out 0).trans rfl; obtain ⟨y0,y1,y2,y3,y4⟩:=cells5 BKy.out; obtain ⟨fy0,fy1,fy2,fy3,fy4⟩:=free5 BKy.out; obtain ⟨r0,r1,r2,r3,r4⟩:=cells5 BKr.out; obtain ⟨fr0,fr1,fr2,fr3,fr4⟩:=free5 BKr.out; clear ht hg hb; obtain ⟨inn,hi1,hi2,hi3⟩:=HT.out.2.1; obtain ⟨u0,c0,f0⟩:=own_at hi1 (i*5) (by have:=hi1.1; have:=HI.out; omega); obtain ⟨u1,c1,f1⟩:=own_at hi1 (i*5+1) (by have:=hi1.1; have:=HI.out; omega); obtain ⟨u2,c2,f2⟩:=own_at hi1 (i*5+2) (by have:=hi1.1; have:=HI.out; omega); obtain ⟨u3,c3,f3⟩:=own_at hi1 (i*5+3) (by have:=hi1.1; have:=HI.out; omega); obtain ⟨u4,c4,f4⟩:=own_at hi1 (i*5+4) (by have:=hi1.1; have:=HI.out; omega); clear hi1 hi2 hi3; have hgt:g4 ≠ gt:=fun e=>Nat.ne_of_gt (DtHT.out g4 (by simp [topFp,Value.ownBlock])) e; have htg:gt ≠ g4:=fun e=>hgt e.symm; have hgr:g4 ≠ gr:=fun e=>Nat.ne_of_gt (DrHT.out g4 (by simp [topFp,Value.ownBlock])) e; have hrg:gr ≠ g4:=fun e=>hgr e.symm; have hrt:gr ≠ gt:=fun e=>Nat.ne_of_gt Ltr.out e; have htr:gt ≠ gr:=fun e=>Nat.ne_of_lt Ltr.out e; have T9:True:=trivial)
   all_goals
    go_wp2
    rw [HV.out]
    have hnd:=HT.out.2.2
    obtain ⟨hn1,hn2,hn3,hn4⟩:=nd3_inv hnd
    have hfl:fss.length=x.f4.length:=by obtain ⟨_,_,h,_⟩:=HT.out.2.1; exact h
    have hyo:OT w6 y [.int .i64 y.f0,.int .i64 y.f1,.string y.f2,.slice E3 y.f3.length h3,.slice E4 y.f4.length h4] (topFp (.slice E3 y.f3.length h3) (.slice E4 y.f4.length h4) gss):=(OT_iff _ _ _ _).2 ⟨_,_,gss,rfl,HY.out.1,HY.out.2.1,rfl⟩
    have hin:∀ k,k ∈ fss.flatten→k ∈ topFp (.slice B3 x.f3.length d3) (.slice (some ⟨g4,0,none⟩) x.f4.length d4) fss:=fun k hk=>by simp only [topFp,List.mem_append]; exact .inr (.inr hk)
    have hg4:g4 ∈ topFp (.slice B3 x.f3.length d3) (.slice (some ⟨g4,0,none⟩) x.f4.length d4) fss:=by simp [topFp,Value.ownBlock]
    have hny:∀ k ∈ topFp (.slice E3 y.f3.length h3) (.slice E4 y.f4.length h4) gss,k ∉ fss.flatten:=fun k hk hm=>by have:=DTY.out k (hin k hm) k hk; omega
    have hput:=ORow_put (i:=i) HT.out.2.1 HI.out (fun k hk e=>hn3 g4 rfl (e ▸ hk)) hyo (fun k hk e=>by have:=DTY.out g4 hg4 k hk; omega)
    have hcg:=chg_set5 (S:=fun k=>k=g4) w6 g4 i (.int .i64 y.f0) (.int .i64 y.f1) (.string y.f2) (.slice E3 y.f3.length h3) (.slice E4 y.f4.length h4) rfl
    have HTF:=Lib.hid (show Top _ (.slice B3 x.f3.length d3) (.slice (some ⟨g4,0,none⟩) x.f4.length d4) ⟨x.f0,x.f1,x.f2,x.f3,x.f4.set i y⟩ (fss.set i (topFp (.slice E3 y.f3.length h3) (.slice E4 y.f4.length h4) gss)) from
     ⟨own_chg HT.out.1 hcg (fun k hk e=>hn1 k hk (by rw [e]; rfl)),hput,nd3 hn1 (fun k hk hm=>by
      rcases set_mem (by rw [hfl]; exact HI.out) hm with hm|hm
      ·exact hn2 k hk hm
      ·have:=DTY.out k (by simp [topFp,hk]) k hm; omega) (fun k hk hm=>by
      rcases set_mem (by rw [hfl]; exact HI.out) hm with hm|hm
      ·exact hn3 k hk hm
      ·have:=DTY.out k (by simp [topFp,hk]) k hm; omega) (set_nodup i (by rw [hfl]; exact HI.out) hn4 HY.out.2.2 hny)⟩)
    have hmem:∀ k ∈ topFp (.slice B3 x.f3.length d3) (.slice (some ⟨g4,0,none⟩) x.f4.length d4) (fss.set i (topFp (.slice E3 y.f3.length h3) (.slice E4 y.f4.length h4) gss)),k ∈ topFp (.slice B3 x.f3.length d3) (.slice (some ⟨g4,0,none⟩) x.f4.length d4) fss ∨ k ∈ topFp (.slice E3 y.f3.length h3) (.slice E4 y.f4.length h4) gss:=fun k hk=>by
     simp only [topFp,List.mem_append] at hk ⊢
     rcases hk with hk|hk|hk
     ·exact .inl (.inl hk)
     ·exact .inl (.inr (.inl hk))
     ·rcases set_mem (by rw [hfl]; exact HI.out) hk with hk|hk
      ·exact .inl (.inr (.inr hk))
      ·simp only [topFp,List.mem_append] at hk
       exact .inr hk
    have HRF:=Lib.hid (fun k hk=>(hmem k hk).elim (DrHT.out k) (DrHY.out k))
    have HGF:=Lib.hid (fun k hk=>(hmem k hk).elim (GEHT.out k) (GEHY.out k))
    have HBF:=Lib.hid (below_chg HB.out HB.out.size hcg (fun k e=>e ▸ GEHT.out g4 hg4))
    exact bodyPost_ret (v:=.agg #[.int .i64 x.f0,.int .i64 x.f1,.string x.f2,(.slice B3 x.f3.length d3),(.slice (some ⟨g4,0,none⟩) x.f4.length d4)]) (by simp [results,Tryz.results64,go_sem,r0,r1,r2,r3,r4,fr0,fr1,fr2,fr3,fr4,hrg,hgr,hrt,htr,htg,hgt]) rfl
     ⟨_,_,_,rfl,Top_chg (S:=fun k=>k=gr) HTF.out (((((chg_put _ gr 0 _).trans (chg_put _ gr 1 _)).trans (chg_put _ gr 2 _)).trans (chg_put _ gr 3 _)).trans (chg_put _ gr 4 _)) (fun k hk e=>Nat.ne_of_gt (HRF.out k hk) e),HGF.out,((((HBF.out.setCell (p:=⟨gr,0,none⟩) GEr.out _).setCell (p:=⟨gr,1,none⟩) GEr.out _).setCell (p:=⟨gr,2,none⟩) GEr.out _).setCell (p:=⟨gr,3,none⟩) GEr.out _).setCell (p:=⟨gr,4,none⟩) GEr.out _⟩
  ·skip
   have d1:decide (0≤kk)=false:=decide_eq_false h1
   have h5:x.f0=5∧x.f3.length=x.f4.length:=by have e:=HBM.out; rw [hm] at e; simpa using e.symm
   have hq:kAt x.f3 key=none:=by
    have e:=HKK.out
    unfold kInt at e
    cases hq:kAt x.f3 key with
    |none=>rfl
    |some j=>rw [hq] at e; simp only at e; omega
   obtain ⟨p,hp⟩:∃ p,insAt x.f3 key=p:=⟨_,rfl⟩
   have hple:=insAt_le x.f3 key
   rw [hp] at hple
   have HP:Hid (p≤x.f3.length):=hple
   have HP4:Hid (p≤x.f4.length):=by show _≤_; omega
   have HV:Hid (setV x key y=⟨x.f0,x.f1,x.f2,x.f3.take p ++ key::x.f3.drop p,x.f4.take p ++ y::x.f4.drop p⟩):=by show _=_; unfold setV; rw [if_pos h5,hq,hp]
   subst hm
   by_cases hlt:p<x.f3.length
   ·have HAB:Hid (abInt x.f3 key=(p:Int)):=by show _=_; unfold abInt; rw [hp,if_pos hlt]
    have d2:decide ((p:Int)<0)=false:=decide_eq_false (by omega)
    clear h5 hq hp hple h1 hlt
    go_enter Tryz.func64,Tryz.ntmps64
    go_wp2_with (first
       |(clear T0; (with_reducible refine gate_dst (N:=3) rfl ?_); refine box_event rfl (N:=3) rfl (cs:=#[.int .i64 x.f0,.int .i64 x.f1,.string x.f2,.slice A3 x.f3.length c3,.slice A4 x.f4.length c4]) (t:=32) (by first|(go_simp; done)|(go_simp; rfl)) ?_; intro gt hg wt bk hb; have GEt:=Lib.hid (Nat.le_trans HB.out.size (Nat.le_of_eq hg.symm)); replace HB:=Lib.hid (HB.out.trans (hb.mono HB.out.size)); have BKt:=Lib.hid bk; clear hg bk hb; obtain ⟨t0,t1,t2,t3,t4⟩:=cells5 BKt.out; obtain ⟨ft0,ft1,ft2,ft3,ft4⟩:=free5 BKt.out; have T1:True:=trivial)
       |(clear T1; (with_reducible refine gate_dst (N:=4) rfl ?_); refine box_event rfl (N:=4) rfl (cs:=#[.string key]) (t:=9) (by first|(go_simp; done)|(go_simp; rfl)) ?_; intro gk hg wk bk hb; have GEk:=Lib.hid (Nat.le_trans HB.out.size (Nat.le_of_eq hg.symm)); have Ltk:=Lib.hid (Nat.lt_of_lt_of_le (blk_lt BKt.out) (Nat.le_of_eq hg.symm)); replace BKt:=Lib.hid (blk_below BKt.out hb); replace HB:=Lib.hid (HB.out.trans (hb.mono HB.out.size)); have BKk:=Lib.hid bk; clear hg bk hb; clear t0 t1 t2 t3 t4 ft0 ft1 ft2 ft3 ft4; obtain ⟨t0,t1,t2,t3,t4⟩:=cells5 BKt.out; obtain ⟨ft0,ft1,ft2,ft3,ft4⟩:=free5 BKt.out; have k0:=(blk_cell BKk.out 0).trans rfl; have T2:True:=trivial)
       |(clear T2; (with_reducible refine gate_dst (N:=5) rfl ?_); refine box_event rfl (N:=5) rfl (cs:=#[.int .i64 y.f0,.int .i64 y.f1,.string y.f2,.slice C3 y.f3.length e3,.slice C4 y.f4.length e4]) (t:=32) (by first|(go_simp; done)|(go_simp; rfl)) ?_; intro gy hg wy bk hb; have GEy:=Lib.hid (Nat.le_trans HB.out.size (Nat.le_of_eq hg.symm)); have Lty:=Lib.hid (Nat.lt_of_lt_of_le (blk_lt BKt.out) (Nat.le_of_eq hg.symm)); have Lky:=Lib.hid (Nat.lt_of_lt_of_le (blk_lt BKk.out) (Nat.le_of_eq hg.symm)); replace BKt:=Lib.hid (blk_below BKt.out hb); replace BKk:=Lib.hid (blk_below BKk.out hb); replace HB:=Lib.hid (HB.out.trans (hb.mono HB.out.size)); have BKy:=Lib.hid bk; clear hg bk hb; clear t0 t1 t2 t3 t4 ft0 ft1 ft2 ft3 ft4; clear k0; obtain ⟨t0,t1,t2,t3,t4⟩:=cells5 BKt.out; obtain ⟨ft0,ft1,ft2,ft3,ft4⟩:=free5 BKt.out; have k0:=(blk_cell BKk.out 0).trans rfl; obtain ⟨y0,y1,y2,y3,y4⟩:=cells5 BKy.out; obtain ⟨fy0,fy1,fy2,fy3,fy4⟩:=free5 BKy.out; have T3:True:=trivial)
       |(clear T3; (with_reducible refine gate_dst (N:=6) rfl ?_); refine box_event rfl (N:=6) rfl (cs:=#[.int .i64 0,.int .i64 0,.string ⟨#[]⟩,.slice none 0 0,.slice none 0 0]) (t:=32) (by first|(go_simp; done)|(go_simp; rfl)) ?_; intro gr hg wr bk hb; have GEr:=Lib.hid (Nat.le_trans HB.out.size (Nat.le_of_eq hg.symm)); have Ltr:=Lib.hid (Nat.lt_of_lt_of_le (blk_lt BKt.out) (Nat.le_of_eq hg.symm)); have Lkr:=Lib.hid (Nat.lt_of_lt_of_le (blk_lt BKk.out) (Nat.le_of_eq hg.symm)); have Lyr:=Lib.hid (Nat.lt_of_lt_of_le (blk_lt BKy.out) (Nat.le_of_eq hg.symm)); replace BKt:=Lib.hid (blk_below BKt.out hb); replace BKk:=Lib.hid (blk_below BKk.out hb); replace BKy:=Lib.hid (blk_below BKy.out hb); replace HB:=Lib.hid (HB.out.trans (hb.mono HB.out.size)); have BKr:=Lib.hid bk; clear hg bk hb; clear t0 t1 t2 t3 t4 ft0 ft1 ft2 ft3 ft4; clear k0; clear y0 y1 y2 y3 y4 fy0 fy1 fy2 fy3 fy4; obtain ⟨t0,t1,t2,t3,t4⟩:=cells5 BKt.out; obtain ⟨ft0,ft1,ft2,ft3,ft4⟩:=free5 BKt.out; have k0:=(blk_cell BKk.out 0).trans rfl; obtain ⟨y0,y1,y2,y3,y4⟩:=cells5 BKy.out; obtain ⟨fy0,fy1,fy2,fy3,fy4⟩:=free5 BKy.out; obtain ⟨r0,r1,r2,r3,r4⟩:=cells5 BKr.out; obtain ⟨fr0,fr1,fr2,fr3,fr4⟩:=free5 BKr.out; have T4:True:=trivial)
       |(clear T4; go_at_call 124; refine (HCP.out _ _ _ _ _ (Kd.C_below G3.out HB.out) l3 (Kd.C_below G4.out HB.out) l4).mono ?_; rintro e w1 ⟨v3,v4,fss,rfl,ht,hg,hb⟩; obtain ⟨B3,d3,rfl,m3,n3⟩:=SRow_C ht.1; obtain ⟨B4,d4,rfl,m4,n4⟩:=ORow_C ht.2.1; clear n3 n4; have DtHT:=Lib.hid (fun k hk=>Nat.lt_of_lt_of_le (blk_lt BKt.out) (hg k hk)); have DkHT:=Lib.hid (fun k hk=>Nat.lt_of_lt_of_le (blk_lt BKk.out) (hg k hk)); have DyHT:=Lib.hid (fun k hk=>Nat.lt_of_lt_of_le (blk_lt BKy.out) (hg k hk)); have DrHT:=Lib.hid (fun k hk=>Nat.lt_of_lt_of_le (blk_lt BKr.out) (hg k hk)); have GEHT:=Lib.hid (fun k hk=>Nat.le_trans HB.out.size (hg k hk)); replace BKt:=Lib.hid (blk_below BKt.out hb); replace BKk:=Lib.hid (blk_below BKk.out hb); replace BKy:=Lib.hid (blk_below BKy.out hb); replace BKr:=Lib.hid (blk_below BKr.out hb); replace HB:=Lib.hid (HB.out.trans (hb.mono HB.out.size)); have HT:=Lib.hid ht; clear t0 t1 t2 t3 t4 ft0 ft1 ft2 ft3 ft4; clear k0; clear y0 y1 y2 y3 y4 fy0 fy1 fy2 fy3 fy4; clear r0 r1 r2 r3 r4 fr0 fr1 fr2 fr3 fr4; obtain ⟨t0,t1,t2,t3,t4⟩:=cells5 BKt.out; obtain ⟨ft0,ft1,ft2,ft3,ft4⟩:=free5 BKt.out; have k0:=(blk_cell BKk.out 0).trans rfl; obtain ⟨y0,y1,y2,y3,y4⟩:=cells5 BKy.out; obtain ⟨fy0,fy1,fy2,fy3,fy4⟩:=free5 BKy.out; obtain ⟨r0,r1,r2,r3,r4⟩:=cells5 BKr.out; obtain ⟨fr0,fr1,fr2,fr3,fr4⟩:=free5 BKr.out; clear ht hg hb; have T5:True:=trivial)
       |(clear T5; (with_reducible refine gate_store (p:=3) rfl ?_); refine store5_event rfl rfl rfl (g:=gt) (.int .i64 x.f0) (.int .i64 x.f1) (.string x.f2) (.slice B3 x.f3.length d3) (.slice B4 x.f4.length d4) BKt.out (by first|(go_simp; done)|(go_simp; rfl)) ?_; intro w2 bk hc; replace BKk:=Lib.hid (blk_chg BKk.out hc (fun e=>Nat.ne_of_lt Ltk.out e.symm)); replace BKy:=Lib.hid (blk_chg BKy.out hc (fun e=>Nat.ne_of_lt Lty.out e.symm)); replace BKr:=Lib.hid (blk_chg BKr.out hc (fun e=>Nat.ne_of_lt Ltr.out e.symm)); replace HT:=Lib.hid (Top_chg HT.out hc (fun k hk e=>Nat.ne_of_gt (DtHT.out k hk) e)); replace HB:=Lib.hid (below_chg HB.out HB.out.size hc (fun k e=>e ▸ GEt.out)); replace BKt:=Lib.hid bk; clear t0 t1 t2 t3 t4 ft0 ft1 ft2 ft3 ft4; clear k0; clear y0 y1 y2 y3 y4 fy0 fy1 fy2 fy3 fy4; clear r0 r1 r2 r3 r4 fr0 fr1 fr2 fr3 fr4; obtain ⟨t0,t1,t2,t3,t4⟩:=cells5 BKt.out; obtain ⟨ft0,ft1,ft2,ft3,ft4⟩:=free5 BKt.out; have k0:=(blk_cell BKk.out 0).trans rfl; obtain ⟨y0,y1,y2,y3,y4⟩:=cells5 BKy.out; obtain ⟨fy0,fy1,fy2,fy3,fy4⟩:=free5 BKy.out; obtain ⟨r0,r1,r2,r3,r4⟩:=cells5 BKr.out; obtain ⟨fr0,fr1,fr2,fr3,fr4⟩:=free5 BKr.out; clear bk hc; have T6:True:=trivial)
       |(clear T6; go_at_call 125; refine (isMap_calls x (Seen.of_top HT.out) _ HBM.out).mono ?_; rintro e w3 ⟨rfl,hb⟩; replace BKt:=Lib.hid (blk_below BKt.out hb); replace BKk:=Lib.hid (blk_below BKk.out hb); replace BKy:=Lib.hid (blk_below BKy.out hb); replace BKr:=Lib.hid (blk_below BKr.out hb); replace HT:=Lib.hid (Top_below HT.out hb); replace HB:=Lib.hid (HB.out.trans (hb.mono HB.out.size)); clear t0 t1 t2 t3 t4 ft0 ft1 ft2 ft3 ft4; clear k0; clear y0 y1 y2 y3 y4 fy0 fy1 fy2 fy3 fy4; clear r0 r1 r2 r3 r4 fr0 fr1 fr2 fr3 fr4; obtain ⟨t0,t1,t2,t3,t4⟩:=cells5 BKt.out; obtain ⟨ft0,ft1,ft2,ft3,ft4⟩:=free5 BKt.out; have k0:=(blk_cell BKk.out 0).trans rfl; obtain ⟨y0,y1,y2,y3,y4⟩:=cells5 BKy.out; obtain ⟨fy0,fy1,fy2,fy3,fy4⟩:=free5 BKy.out; obtain ⟨r0,r1,r2,r3,r4⟩:=cells5 BKr.out; obtain ⟨fr0,fr1,fr2,fr3,fr4⟩:=free5 BKr.out; clear hb; have T7:True:=trivial)
       |(clear T7; go_at_call 126; refine (idx_calls _ _ x.f3 key _ (SRow_at HT.out.1)).mono ?_; rintro e w4 ⟨rfl,rfl⟩; rw [← HKK.out]; have T8:True:=trivial)
       |(clear T8; go_at_call 127; refine (idxF_calls _ _ x.f3 key gk _ (SRow_at HT.out.1) k0).mono ?_; rintro e w5 ⟨rfl,rfl⟩; rw [HAB.out]; have T9:True:=trivial)
       |(clear T9; go_at_call 129; have hal:=below_alloc (Below.refl _ w5) (.cells #[.string key] 9); have hsa:=own_below HT.out.1 hal; refine (insS_row _ x.f3 key p _ _ hsa HP.out hl3 (blk_new _ _) (fun k hk e=>Nat.lt_irrefl _ (e ▸ (HT.out.1.lt k hk).2))).mono ?_; rintro e w7 ⟨u3,rfl,hs,hc,hat⟩; have hcA:=(Chg.of_same (S:=fun k=>(Value.slice B3 x.f3.length d3).ownBlock=some k) hal).trans hc; obtain ⟨hn1,hn2,hn3,hn4⟩:=nd3_inv HT.out.2.2; have hu3:∀ k,u3.ownBlock=some k→(Value.slice B3 x.f3.length d3).ownBlock=some k ∨ w5.heap.size≤k:=fun k hk=>hat.elim (fun e=>.inl (e ▸ hk)) (fun e=>.inr (by rw [e] at hk; have:=Option.some.inj hk; simp at this; omega)); have HU3:=Lib.hid (fun k hk=>(hu3 k hk).elim (fun e=>hn1 k e) (fun e e2=>Nat.not_le.2 (HT.out.2.1.choose_spec.1.lt k e2).2 e)); have HU3F:=Lib.hid (fun k hk=>(hu3 k hk).elim (fun e=>hn2 k e) (fun e hm=>Nat.not_le.2 (Top_lt HT.out k (by simp only [topFp,List.mem_append]; exact .inr (.inr hm))) e)); have DrU:=Lib.hid (fun k hk=>(hu3 k hk).elim (fun e=>DrHT.out k (by simp [topFp,e])) (fun e=>Nat.lt_of_lt_of_le (blk_lt BKr.out) e)); have DtU:=Lib.hid (fun k hk=>(hu3 k hk).elim (fun e=>DtHT.out k (by simp [topFp,e])) (fun e=>Nat.lt_of_lt_of_le (blk_lt BKt.out) e)); have GEU:=Lib.hid (fun k hk=>(hu3 k hk).elim (fun e=>GEHT.out k (by simp [topFp,e])) (fun e=>Nat.le_trans HB.out.size e)); have HN3:=Lib.hid hn3; have HN4:=Lib.hid hn4; have HO:=Lib.hid (ORow_chg hcA HT.out.2.1 (fun k hk e=>hn1 k e hk) (fun k hk e=>hn2 k e hk)); replace BKt:=Lib.hid (blk_chg BKt.out hcA (fun e=>Nat.lt_irrefl _ (DtHT.out _ (by simp [topFp,e])))); replace BKk:=Lib.hid (blk_chg BKk.out hcA (fun e=>Nat.lt_irrefl _ (DkHT.out _ (by simp [topFp,e])))); replace BKy:=Lib.hid (blk_chg BKy.out hcA (fun e=>Nat.lt_irrefl _ (DyHT.out _ (by simp [topFp,e])))); replace BKr:=Lib.hid (blk_chg BKr.out hcA (fun e=>Nat.lt_irrefl _ (DrHT.out _ (by simp [topFp,e])))); replace HB:=Lib.hid (below_chg HB.out HB.out.size hcA (fun k e=>GEHT.out k (by simp [topFp,e]))); obtain ⟨X3,nX3,o3,rfl⟩:=row_form hs; have HS:=Lib.hid hs; clear t0 t1 t2 t3 t4 ft0 ft1 ft2 ft3 ft4; clear k0; clear y0 y1 y2 y3 y4 fy0 fy1 fy2 fy3 fy4; clear r0 r1 r2 r3 r4 fr0 fr1 fr2 fr3 fr4; obtain ⟨t0,t1,t2,t3,t4⟩:=cells5 BKt.out; obtain ⟨ft0,ft1,ft2,ft3,ft4⟩:=free5 BKt.out; have k0:=(blk_cell BKk.out 0).trans rfl; obtain ⟨y0,y1,y2,y3,y4⟩:=cells5 BKy.out; obtain ⟨fy0,fy1,fy2,fy3,fy4⟩:=free5 BKy.out; obtain ⟨r0,r1,r2,r3,r4⟩:=cells5 BKr.out; obtain ⟨fr0,fr1,fr2,fr3,fr4⟩:=free5 BKr.out; clear hs hc hat hcA hal hsa hu3 hn1 hn2 hn3 hn4 HT; have T10:True:=trivial)
       |(clear T10; (with_reducible refine gate_store (p:=43) rfl ?_); refine store1_event rfl rfl rfl (g:=gt) (j:=3) (.slice X3 nX3 o3) BKt.out rfl (by first|(go_simp; done)|(go_simp; rfl)) ?_; intro w8 bk hc; replace BKk:=Lib.hid (blk_chg BKk.out hc (fun e=>Nat.ne_of_lt Ltk.out e.symm)); replace BKy:=Lib.hid (blk_chg BKy.out hc (fun e=>Nat.ne_of_lt Lty.out e.symm)); replace BKr:=Lib.hid (blk_chg BKr.out hc (fun e=>Nat.ne_of_lt Ltr.out e.symm)); replace HB:=Lib.hid (below_chg HB.out HB.out.size hc (fun k e=>e ▸ GEt.out)); replace BKt:=Lib.hid bk; replace HS:=Lib.hid (own_chg HS.out hc (fun k hk e=>Nat.ne_of_gt (DtU.out k hk) e)); replace HO:=Lib.hid (ORow_chg hc HO.out (fun k hk e=>Nat.ne_of_gt (DtHT.out k (by simp [topFp,hk])) e) (fun k hk e=>Nat.ne_of_gt (DtHT.out k (by simp only [topFp,List.mem_append]; exact .inr (.inr hk))) e)); clear t0 t1 t2 t3 t4 ft0 ft1 ft2 ft3 ft4; clear k0; clear y0 y1 y2 y3 y4 fy0 fy1 fy2 fy3 fy4; clear r0 r1 r2 r3 r4 fr0 fr1 fr2 fr3 fr4; obtain ⟨t0,t1,t2,t3,t4⟩:=cells5 BKt.out; obtain ⟨ft0,ft1,ft2,ft3,ft4⟩:=free5 BKt.out; have k0:=(blk_cell BKk.out 0).trans rfl; obtain ⟨y0,y1,y2,y3,y4⟩:=cells5 BKy.out; obtain ⟨fy0,fy1,fy2,fy3,fy4⟩:=free5 BKy.out; obtain ⟨r0,r1,r2,r3,r4⟩:=cells5 BKr.out; obtain ⟨fr0,fr1,fr2,fr3,fr4⟩:=free5 BKr.out; clear bk hc; have T11:True:=trivial))
    refine start_ (n:=9) (S:=fun W=>W.cell? ⟨gy,0,none⟩=some (.int .i64 y.f0)∧W.cell? ⟨gy,1,none⟩=some (.int .i64 y.f1)∧W.cell? ⟨gy,2,none⟩=some (.string y.f2)∧W.cell? ⟨gy,3,none⟩=some (.slice C3 y.f3.length e3)∧W.cell? ⟨gy,4,none⟩=some (.slice C4 y.f4.length e4)∧W.cell? ⟨gt,4,none⟩=some (.slice B4 x.f4.length d4)) (ds:=[8]) #[false,false,false,false,false,false,false,false,false] (by kernel_rfl) rfl rfl (⟨y0,y1,y2,y3,y4,t4⟩) (fun hHeld=>?_)
    refine pure_ (i:=0) (N:=some 44) (v:=_) (a':=_) (bs_ 9 1) rfl rfl (by kernel_rfl) (fun _ _ _ h=>h) (Or.inl ⟨by rfl,by intro w'; go_simp; first|with_reducible rfl|rfl⟩) (by simp only [Act.put,List.setIfInBounds_toArray,List.set_cons_zero,List.set_cons_succ]; rfl) ?_
    refine take_ (i:=1) (N:=some 45) (v:=?_) (a':=?_) (bs_ 9 3) rfl rfl (by kernel_rfl) (fun _ _ _ h=>h) (Or.inl ⟨by rfl,?_⟩) hHeld ?_ ?_
    rotate_left
    ·rintro w' ⟨s0,s1,s2,s3,s4,s5⟩
     go_simp
     (first|with_reducible rfl|rfl)
    rotate_left
    ·simp only [Act.put,List.setIfInBounds_toArray,List.set_cons_zero,List.set_cons_succ]
     rfl
    refine pure_ (i:=2) (N:=some 46) (v:=_) (a':=_) (bs_ 9 7) rfl rfl (by kernel_rfl) (fun _ _ _ h=>h) (Or.inl ⟨by rfl,by intro w'; go_simp; first|with_reducible rfl|rfl⟩) (by simp only [Act.put,List.setIfInBounds_toArray,List.set_cons_zero,List.set_cons_succ]; rfl) ?_
    refine take_ (i:=3) (N:=some 47) (v:=?_) (a':=?_) (bs_ 9 15) rfl rfl (by kernel_rfl) (fun _ _ _ h=>h) (Or.inl ⟨by rfl,?_⟩) hHeld ?_ ?_
    rotate_left
    ·rintro w' ⟨s0,s1,s2,s3,s4,s5⟩
     go_simp
     (first|with_reducible rfl|rfl)
    rotate_left
    ·simp only [Act.put,List.setIfInBounds_toArray,List.set_cons_zero,List.set_cons_succ]
     rfl
    refine one_ (i:=4) (N:=some 48) (bs_ 9 31) rfl rfl (by kernel_rfl) (by decide) (fun K hK=>?_)
    refine goes_ Tryz.func124 (by kernel_rfl) rfl #[.agg #[.int .i64 y.f0,.int .i64 y.f1,.string y.f2,.slice C3 y.f3.length e3,.slice C4 y.f4.length e4]] (by rfl) rfl rfl (by (try simp only [List.map_toArray,List.map_cons,List.map_nil]); first|done|rfl) ?_
    replace BKt:=Lib.hid (blk_below BKt.out (below_drew (Below.refl _ _))); replace BKk:=Lib.hid (blk_below BKk.out (below_drew (Below.refl _ _))); replace BKy:=Lib.hid (blk_below BKy.out (below_drew (Below.refl _ _))); replace BKr:=Lib.hid (blk_below BKr.out (below_drew (Below.refl _ _))); replace HB:=Lib.hid (HB.out.trans ((below_drew (Below.refl _ _)).mono HB.out.size)); replace HS:=Lib.hid (own_below HS.out (below_drew (Below.refl _ _))); replace HO:=Lib.hid (ORow_below HO.out (below_drew (Below.refl _ _))); refine (HCY.out _ _ _ _ _ (Kd.C_below P3.out HB.out) q3 (Kd.C_below P4.out HB.out) q4).mono ?_; rintro e w9 ⟨z3,z4,gss,rfl,ht,hg,hb⟩; refine ⟨_,rfl,?_⟩; obtain ⟨E3,h3,rfl,j3,n3⟩:=SRow_C ht.1; obtain ⟨E4,h4,rfl,j4,n4⟩:=ORow_C ht.2.1; clear n3 n4; have DrHY:=Lib.hid (fun k hk=>Nat.lt_of_lt_of_le (blk_lt BKr.out) (hg k hk)); have DtHY:=Lib.hid (fun k hk=>Nat.lt_of_lt_of_le (blk_lt BKt.out) (hg k hk)); have GEHY:=Lib.hid (fun k hk=>Nat.le_trans HB.out.size (hg k hk)); have DOY:=Lib.hid (fun k hk j hj=>Nat.lt_of_lt_of_le (ORow_lt HO.out k hk) (hg j hj)); have DSY:=Lib.hid (fun k hk j hj=>Nat.lt_of_lt_of_le (HS.out.lt k hk).2 (hg j hj)); replace BKt:=Lib.hid (blk_below BKt.out hb); replace BKk:=Lib.hid (blk_below BKk.out hb); replace BKy:=Lib.hid (blk_below BKy.out hb); replace BKr:=Lib.hid (blk_below BKr.out hb); replace HB:=Lib.hid (HB.out.trans (hb.mono HB.out.size)); replace HS:=Lib.hid (own_below HS.out hb); replace HO:=Lib.hid (ORow_below HO.out hb); have HY:=Lib.hid ht; have HNY:=Lib.hid ht.2.2; have HLTt:=Lib.hid (blk_lt BKt.out); have HLTr:=Lib.hid (blk_lt BKr.out); have HLTw:=Lib.hid HB.out.size; clear t0 t1 t2 t3 t4 ft0 ft1 ft2 ft3 ft4; clear k0; clear y0 y1 y2 y3 y4 fy0 fy1 fy2 fy3 fy4; clear r0 r1 r2 r3 r4 fr0 fr1 fr2 fr3 fr4; obtain ⟨t0,t1,t2,t3,t4⟩:=cells5 BKt.out; obtain ⟨ft0,ft1,ft2,ft3,ft4⟩:=free5 BKt.out; have k0:=(blk_cell BKk.out 0).trans rfl; obtain ⟨y0,y1,y2,y3,y4⟩:=cells5 BKy.out; obtain ⟨fy0,fy1,fy2,fy3,fy4⟩:=free5 BKy.out; obtain ⟨r0,r1,r2,r3,r4⟩:=cells5 BKr.out; obtain ⟨fr0,fr1,fr2,fr3,fr4⟩:=free5 BKr.out; clear ht hg hb; have hna:=World.cell?_alloc_past (w:=w9) (.cells #[.int .i64 y.f0,.int .i64 y.f1,.string y.f2,.slice E3 y.f3.length h3,.slice E4 y.f4.length h4] 32) gt 4 (blk_lt BKt.out); rw [t4] at hna
    refine hK.out _ _ (⟨y0,y1,y2,y3,y4,t4⟩) (fun hHeld=>?_)
    clear hK K
    refine norm_ (a':=?_) ?_ ?_
    rotate_left
    ·show Act.put _ (some 48) _=_
     simp only [Act.put,List.setIfInBounds_toArray,List.set_cons_zero,List.set_cons_succ]
     rfl
    refine one_ (i:=5) (N:=some 49) (bs_ 9 63) rfl rfl (by kernel_rfl) (by decide) (fun K hK=>?_)
    refine value_ (w1:=?_) (v:=?_) (by rfl) rfl ?_ ?_
    rotate_left 2
    ·go_simp
     constructor
     ·rfl
     ·rfl
    refine hK.out _ _ (⟨(blk_cell (blk_below BKy.out (below_alloc (Below.refl _ w9) _)) 0).trans rfl,(blk_cell (blk_below BKy.out (below_alloc (Below.refl _ w9) _)) 1).trans rfl,(blk_cell (blk_below BKy.out (below_alloc (Below.refl _ w9) _)) 2).trans rfl,(blk_cell (blk_below BKy.out (below_alloc (Below.refl _ w9) _)) 3).trans rfl,(blk_cell (blk_below BKy.out (below_alloc (Below.refl _ w9) _)) 4).trans rfl,(blk_cell (blk_below BKt.out (below_alloc (Below.refl _ w9) _)) 4).trans rfl⟩) (fun hHeld=>?_)
    clear hK K
    refine norm_ (a':=?_) ?_ ?_
    rotate_left
    ·show Act.put _ (some 49) _=_
     simp only [Act.put,List.setIfInBounds_toArray,List.set_cons_zero,List.set_cons_succ]
     rfl
    refine one_ (i:=6) (N:=some 50) (bs_ 9 127) rfl rfl (by kernel_rfl) (by decide) (fun K hK=>?_)
    refine goes_ Tryz.func130 (by kernel_rfl) rfl #[.slice B4 x.f4.length d4,.int .i64 (p:Nat),.slice (some ⟨w9.heap.size,0,none⟩) 1 1] (by rfl) rfl rfl (by (try simp only [List.map_toArray,List.map_cons,List.map_nil]); first|done|rfl) ?_
    have hal:=below_alloc (Below.refl _ w9) (.cells #[.int .i64 y.f0,.int .i64 y.f1,.string y.f2,.slice E3 y.f3.length h3,.slice E4 y.f4.length h4] 32); have hoa:=ORow_below HO.out hal; have hya:=Top_below HY.out hal; have hyo:=(OT_iff _ _ _ _).2 ⟨_,_,gss,rfl,hya.1,hya.2.1,rfl⟩; refine (insN_row _ x.f4 fss y [.int .i64 y.f0,.int .i64 y.f1,.string y.f2,.slice E3 y.f3.length h3,.slice E4 y.f4.length h4] (topFp (.slice E3 y.f3.length h3) (.slice E4 y.f4.length h4) gss) p _ _ hoa (fun k hk e=>HN3.out k e hk) hyo (fun k hk e=>Nat.lt_irrefl _ (DOY.out k (List.mem_append.2 (.inl (mem_own.2 e))) k hk)) HP4.out hl4 (blk_new _ _) (fun k hk e=>Nat.lt_irrefl _ (e ▸ ORow_lt HO.out k (List.mem_append.2 (.inl (mem_own.2 hk)))))).mono ?_; rintro e w10 ⟨u4,rfl,ho,hc,hat⟩; refine ⟨_,rfl,?_⟩; have hcA:=(Chg.of_same (S:=fun k=>(Value.slice B4 x.f4.length d4).ownBlock=some k) hal).trans hc; have hu4:∀ k,u4.ownBlock=some k→(Value.slice B4 x.f4.length d4).ownBlock=some k ∨ w9.heap.size≤k:=fun k hk=>hat.elim (fun e=>.inl (e ▸ hk)) (fun e=>.inr (by rw [e] at hk; have:=Option.some.inj hk; simp at this; omega)); have HU4:=Lib.hid hu4; have DO4:=Lib.hid (fun k hk=>Nat.lt_of_lt_of_le (ORow_lt HO.out k hk) (Nat.le_refl _)); have DS4:=Lib.hid (fun k hk=>(HS.out.lt k hk).2); have DY4:=Lib.hid (fun k hk=>Top_lt HY.out k hk); have hS10:=own_chg HS.out hcA (fun k hk e=>HU3.out k hk e); replace HS:=Lib.hid hS10; obtain ⟨X4,nX4,o4,rfl⟩:=row_form ho.choose_spec.1; replace HO:=Lib.hid ho; clear HY; replace BKt:=Lib.hid (blk_chg BKt.out hcA (fun e=>Nat.lt_irrefl _ (DtHT.out _ (by simp [topFp,e])))); replace BKk:=Lib.hid (blk_chg BKk.out hcA (fun e=>Nat.lt_irrefl _ (DkHT.out _ (by simp [topFp,e])))); replace BKy:=Lib.hid (blk_chg BKy.out hcA (fun e=>Nat.lt_irrefl _ (DyHT.out _ (by simp [topFp,e])))); replace BKr:=Lib.hid (blk_chg BKr.out hcA (fun e=>Nat.lt_irrefl _ (DrHT.out _ (by simp [topFp,e])))); replace HB:=Lib.hid (below_chg HB.out HB.out.size hcA (fun k e=>GEHT.out k (by simp [topFp,e]))); clear t0 t1 t2 t3 t4 ft0 ft1 ft2 ft3 ft4; clear k0; clear y0 y1 y2 y3 y4 fy0 fy1 fy2 fy3 fy4; clear r0 r1 r2 r3 r4 fr0 fr1 fr2 fr3 fr4; obtain ⟨t0,t1,t2,t3,t4⟩:=cells5 BKt.out; obtain ⟨ft0,ft1,ft2,ft3,ft4⟩:=free5 BKt.out; have k0:=(blk_cell BKk.out 0).trans rfl; obtain ⟨y0,y1,y2,y3,y4⟩:=cells5 BKy.out; obtain ⟨fy0,fy1,fy2,fy3,fy4⟩:=free5 BKy.out; obtain ⟨r0,r1,r2,r3,r4⟩:=cells5 BKr.out; obtain ⟨fr0,fr1,fr2,fr3,fr4⟩:=free5 BKr.out; clear hal hoa hya hyo hc hat hcA hu4 ho hS10 hna; have hrt:gr ≠ gt:=fun e=>Nat.ne_of_gt Ltr.out e; have htr:gt ≠ gr:=fun e=>Nat.ne_of_lt Ltr.out e
    refine hK.out _ _ (⟨y0,y1,y2,y3,y4,t4⟩) (fun hHeld=>?_)
    clear hK K
    refine norm_ (a':=?_) ?_ ?_
    rotate_left
    ·show Act.put _ (some 50) _=_
     simp only [Act.put,List.setIfInBounds_toArray,List.set_cons_zero,List.set_cons_succ]
     rfl
    refine pure_ (i:=7) (N:=some 51) (v:=_) (a':=_) (bs_ 9 255) rfl rfl (by kernel_rfl) (fun _ _ _ h=>h) (Or.inl ⟨by rfl,by intro w'; go_simp; first|with_reducible rfl|rfl⟩) (by simp only [Act.put,List.setIfInBounds_toArray,List.set_cons_zero,List.set_cons_succ]; rfl) ?_
    refine last_ (i:=8) (N:=none) (bs_ 9 511) rfl rfl (by kernel_rfl) (by decide) (fun K hK=>?_)
    refine skip_ (w1:=?_) (by rfl) rfl ?_ ?_
    rotate_left
    ·go_simp
     rfl
    refine hK.out _ _ ?_
    clear hK K
    refine done_ (by kernel_rfl) ?_
    all_goals
     go_wp2
     rw [HV.out]
     have hcg:=chg_put w10 gt 4 (.slice X4 nX4 o4)
     have hdis:∀ k ∈ (topFp (.slice E3 y.f3.length h3) (.slice E4 y.f4.length h4) gss),k ∉ fss.flatten:=fun k hk hm=>Nat.lt_irrefl _ (DOY.out k (List.mem_append.2 (.inr hm)) k hk)
     have h34:∀ k,(Value.slice X3 nX3 o3).ownBlock=some k→(Value.slice X4 nX4 o4).ownBlock ≠ some k:=fun k hk e=>by
      rcases HU4.out k e with h|h
      ·exact HU3.out k hk h
      ·exact absurd h (Nat.not_le.2 (DS4.out k hk))
     have h3F:∀ k,(Value.slice X3 nX3 o3).ownBlock=some k→k ∉ (fss.take p ++ (topFp (.slice E3 y.f3.length h3) (.slice E4 y.f4.length h4) gss)::fss.drop p).flatten:=fun k hk hm=>by
      rcases ins_mem hm with hm|hm
      ·exact HU3F.out k hk hm
      ·exact absurd (DSY.out k hk k hm) (Nat.lt_irrefl _)
     have h4F:∀ k,(Value.slice X4 nX4 o4).ownBlock=some k→k ∉ (fss.take p ++ (topFp (.slice E3 y.f3.length h3) (.slice E4 y.f4.length h4) gss)::fss.drop p).flatten:=fun k hk hm=>by
      rcases HU4.out k hk with h|h
      ·rcases ins_mem hm with hm|hm
       ·exact HN3.out k h hm
       ·exact absurd (DOY.out k (List.mem_append.2 (.inl (mem_own.2 h))) k hm) (Nat.lt_irrefl _)
      ·rcases ins_mem hm with hm|hm
       ·exact absurd h (Nat.not_le.2 (DO4.out k (List.mem_append.2 (.inr hm))))
       ·exact absurd h (Nat.not_le.2 (DY4.out k hm))
     have hndF:(fss.take p ++ (topFp (.slice E3 y.f3.length h3) (.slice E4 y.f4.length h4) gss)::fss.drop p).flatten.Nodup:=ins_nodup p HN4.out HNY.out hdis
     have hrest:∀ k ∈ topFp (.slice X3 nX3 o3) (.slice X4 nX4 o4) (fss.take p ++ (topFp (.slice E3 y.f3.length h3) (.slice E4 y.f4.length h4) gss)::fss.drop p),gt<k∧gr<k∧w.heap.size≤k:=fun k hk=>by
      simp only [topFp,List.mem_append,mem_own] at hk
      rcases hk with hk|hk|hk
      ·exact ⟨DtU.out k hk,DrU.out k hk,GEU.out k hk⟩
      ·rcases HU4.out k hk with h|h
       ·exact ⟨DtHT.out k (by simp [topFp,h]),DrHT.out k (by simp [topFp,h]),GEHT.out k (by simp [topFp,h])⟩
       ·exact ⟨Nat.lt_of_lt_of_le HLTt.out h,Nat.lt_of_lt_of_le HLTr.out h,Nat.le_trans HLTw.out h⟩
      ·rcases ins_mem hk with hk|hk
       ·have hm:k ∈ topFp (.slice B3 x.f3.length d3) (.slice B4 x.f4.length d4) fss:=by simp only [topFp,List.mem_append]; exact .inr (.inr hk)
        exact ⟨DtHT.out k hm,DrHT.out k hm,GEHT.out k hm⟩
       ·exact ⟨DtHY.out k hk,DrHY.out k hk,GEHY.out k hk⟩
     have HTF:=Lib.hid (show Top _ (.slice X3 nX3 o3) (.slice X4 nX4 o4) ⟨x.f0,x.f1,x.f2,x.f3.take p ++ key::x.f3.drop p,x.f4.take p ++ y::x.f4.drop p⟩ (fss.take p ++ (topFp (.slice E3 y.f3.length h3) (.slice E4 y.f4.length h4) gss)::fss.drop p) from
      Top_chg ⟨HS.out,HO.out,nd3 h34 h3F h4F hndF⟩ hcg (fun k hk e=>Nat.ne_of_gt (hrest k hk).1 e))
     have HRF:=Lib.hid (fun k hk=>(hrest k hk).2.1)
     have HGF:=Lib.hid (fun k hk=>(hrest k hk).2.2)
     have HBF:=Lib.hid (HB.out.setCell (p:=⟨gt,4,none⟩) GEt.out (.slice X4 nX4 o4))
     exact bodyPost_ret (v:=.agg #[.int .i64 x.f0,.int .i64 x.f1,.string x.f2,(.slice X3 nX3 o3),(.slice X4 nX4 o4)]) (by simp [results,Tryz.results64,go_sem,r0,r1,r2,r3,r4,fr0,fr1,fr2,fr3,fr4,hrt,htr]) rfl
      ⟨_,_,_,rfl,Top_chg (S:=fun k=>k=gr) HTF.out (((((chg_put _ gr 0 _).trans (chg_put _ gr 1 _)).trans (chg_put _ gr 2 _)).trans (chg_put _ gr 3 _)).trans (chg_put _ gr 4 _)) (fun k hk e=>Nat.ne_of_gt (HRF.out k hk) e),HGF.out,((((HBF.out.setCell (p:=⟨gr,0,none⟩) GEr.out _).setCell (p:=⟨gr,1,none⟩) GEr.out _).setCell (p:=⟨gr,2,none⟩) GEr.out _).setCell (p:=⟨gr,3,none⟩) GEr.out _).setCell (p:=⟨gr,4,none⟩) GEr.out _⟩
   ·have HAB:Hid (abInt x.f3 key = -1):=by show _=_; unfold abInt; rw [hp,if_neg hlt]
    have hpe:p=x.f3.length:=by omega
    clear h5 hq hp hple h1 hlt
    subst hpe
    go_enter Tryz.func64,Tryz.ntmps64
    go_wp2_with (first
       |(clear T0; (with_reducible refine gate_dst (N:=3) rfl ?_); refine box_event rfl (N:=3) rfl (cs:=#[.int .i64 x.f0,.int .i64 x.f1,.string x.f2,.slice A3 x.f3.length c3,.slice A4 x.f4.length c4]) (t:=32) (by first|(go_simp; done)|(go_simp; rfl)) ?_; intro gt hg wt bk hb; have GEt:=Lib.hid (Nat.le_trans HB.out.size (Nat.le_of_eq hg.symm)); replace HB:=Lib.hid (HB.out.trans (hb.mono HB.out.size)); have BKt:=Lib.hid bk; clear hg bk hb; obtain ⟨t0,t1,t2,t3,t4⟩:=cells5 BKt.out; obtain ⟨ft0,ft1,ft2,ft3,ft4⟩:=free5 BKt.out; have T1:True:=trivial)
       |(clear T1; (with_reducible refine gate_dst (N:=4) rfl ?_); refine box_event rfl (N:=4) rfl (cs:=#[.string key]) (t:=9) (by first|(go_simp; done)|(go_simp; rfl)) ?_; intro gk hg wk bk hb; have GEk:=Lib.hid (Nat.le_trans HB.out.size (Nat.le_of_eq hg.symm)); have Ltk:=Lib.hid (Nat.lt_of_lt_of_le (blk_lt BKt.out) (Nat.le_of_eq hg.symm)); replace BKt:=Lib.hid (blk_below BKt.out hb); replace HB:=Lib.hid (HB.out.trans (hb.mono HB.out.size)); have BKk:=Lib.hid bk; clear hg bk hb; clear t0 t1 t2 t3 t4 ft0 ft1 ft2 ft3 ft4; obtain ⟨t0,t1,t2,t3,t4⟩:=cells5 BKt.out; obtain ⟨ft0,ft1,ft2,ft3,ft4⟩:=free5 BKt.out; have k0:=(blk_cell BKk.out 0).trans rfl; have T2:True:=trivial)
       |(clear T2; (with_reducible refine gate_dst (N:=5) rfl ?_); refine box_event rfl (N:=5) rfl (cs:=#[.int .i64 y.f0,.int .i64 y.f1,.string y.f2,.slice C3 y.f3.length e3,.slice C4 y.f4.length e4]) (t:=32) (by first|(go_simp; done)|(go_simp; rfl)) ?_; intro gy hg wy bk hb; have GEy:=Lib.hid (Nat.le_trans HB.out.size (Nat.le_of_eq hg.symm)); have Lty:=Lib.hid (Nat.lt_of_lt_of_le (blk_lt BKt.out) (Nat.le_of_eq hg.symm)); have Lky:=Lib.hid (Nat.lt_of_lt_of_le (blk_lt BKk.out) (Nat.le_of_eq hg.symm)); replace BKt:=Lib.hid (blk_below BKt.out hb); replace BKk:=Lib.hid (blk_below BKk.out hb); replace HB:=Lib.hid (HB.out.trans (hb.mono HB.out.size)); have BKy:=Lib.hid bk; clear hg bk hb; clear t0 t1 t2 t3 t4 ft0 ft1 ft2 ft3 ft4; clear k0; obtain ⟨t0,t1,t2,t3,t4⟩:=cells5 BKt.out; obtain ⟨ft0,ft1,ft2,ft3,ft4⟩:=free5 BKt.out; have k0:=(blk_cell BKk.out 0).trans rfl; obtain ⟨y0,y1,y2,y3,y4⟩:=cells5 BKy.out; obtain ⟨fy0,fy1,fy2,fy3,fy4⟩:=free5 BKy.out; have T3:True:=trivial)
       |(clear T3; (with_reducible refine gate_dst (N:=6) rfl ?_); refine box_event rfl (N:=6) rfl (cs:=#[.int .i64 0,.int .i64 0,.string ⟨#[]⟩,.slice none 0 0,.slice none 0 0]) (t:=32) (by first|(go_simp; done)|(go_simp; rfl)) ?_; intro gr hg wr bk hb; have GEr:=Lib.hid (Nat.le_trans HB.out.size (Nat.le_of_eq hg.symm)); have Ltr:=Lib.hid (Nat.lt_of_lt_of_le (blk_lt BKt.out) (Nat.le_of_eq hg.symm)); have Lkr:=Lib.hid (Nat.lt_of_lt_of_le (blk_lt BKk.out) (Nat.le_of_eq hg.symm)); have Lyr:=Lib.hid (Nat.lt_of_lt_of_le (blk_lt BKy.out) (Nat.le_of_eq hg.symm)); replace BKt:=Lib.hid (blk_below BKt.out hb); replace BKk:=Lib.hid (blk_below BKk.out hb); replace BKy:=Lib.hid (blk_below BKy.out hb); replace HB:=Lib.hid (HB.out.trans (hb.mono HB.out.size)); have BKr:=Lib.hid bk; clear hg bk hb; clear t0 t1 t2 t3 t4 ft0 ft1 ft2 ft3 ft4; clear k0; clear y0 y1 y2 y3 y4 fy0 fy1 fy2 fy3 fy4; obtain ⟨t0,t1,t2,t3,t4⟩:=cells5 BKt.out; obtain ⟨ft0,ft1,ft2,ft3,ft4⟩:=free5 BKt.out; have k0:=(blk_cell BKk.out 0).trans rfl; obtain ⟨y0,y1,y2,y3,y4⟩:=cells5 BKy.out; obtain ⟨fy0,fy1,fy2,fy3,fy4⟩:=free5 BKy.out; obtain ⟨r0,r1,r2,r3,r4⟩:=cells5 BKr.out; obtain ⟨fr0,fr1,fr2,fr3,fr4⟩:=free5 BKr.out; have T4:True:=trivial)
       |(clear T4; go_at_call 124; refine (HCP.out _ _ _ _ _ (Kd.C_below G3.out HB.out) l3 (Kd.C_below G4.out HB.out) l4).mono ?_; rintro e w1 ⟨v3,v4,fss,rfl,ht,hg,hb⟩; obtain ⟨B3,d3,rfl,m3,n3⟩:=SRow_C ht.1; obtain ⟨B4,d4,rfl,m4,n4⟩:=ORow_C ht.2.1; clear n3 n4; have DtHT:=Lib.hid (fun k hk=>Nat.lt_of_lt_of_le (blk_lt BKt.out) (hg k hk)); have DkHT:=Lib.hid (fun k hk=>Nat.lt_of_lt_of_le (blk_lt BKk.out) (hg k hk)); have DyHT:=Lib.hid (fun k hk=>Nat.lt_of_lt_of_le (blk_lt BKy.out) (hg k hk)); have DrHT:=Lib.hid (fun k hk=>Nat.lt_of_lt_of_le (blk_lt BKr.out) (hg k hk)); have GEHT:=Lib.hid (fun k hk=>Nat.le_trans HB.out.size (hg k hk)); replace BKt:=Lib.hid (blk_below BKt.out hb); replace BKk:=Lib.hid (blk_below BKk.out hb); replace BKy:=Lib.hid (blk_below BKy.out hb); replace BKr:=Lib.hid (blk_below BKr.out hb); replace HB:=Lib.hid (HB.out.trans (hb.mono HB.out.size)); have HT:=Lib.hid ht; clear t0 t1 t2 t3 t4 ft0 ft1 ft2 ft3 ft4; clear k0; clear y0 y1 y2 y3 y4 fy0 fy1 fy2 fy3 fy4; clear r0 r1 r2 r3 r4 fr0 fr1 fr2 fr3 fr4; obtain ⟨t0,t1,t2,t3,t4⟩:=cells5 BKt.out; obtain ⟨ft0,ft1,ft2,ft3,ft4⟩:=free5 BKt.out; have k0:=(blk_cell BKk.out 0).trans rfl; obtain ⟨y0,y1,y2,y3,y4⟩:=cells5 BKy.out; obtain ⟨fy0,fy1,fy2,fy3,fy4⟩:=free5 BKy.out; obtain ⟨r0,r1,r2,r3,r4⟩:=cells5 BKr.out; obtain ⟨fr0,fr1,fr2,fr3,fr4⟩:=free5 BKr.out; clear ht hg hb; have T5:True:=trivial)
       |(clear T5; (with_reducible refine gate_store (p:=3) rfl ?_); refine store5_event rfl rfl rfl (g:=gt) (.int .i64 x.f0) (.int .i64 x.f1) (.string x.f2) (.slice B3 x.f3.length d3) (.slice B4 x.f4.length d4) BKt.out (by first|(go_simp; done)|(go_simp; rfl)) ?_; intro w2 bk hc; replace BKk:=Lib.hid (blk_chg BKk.out hc (fun e=>Nat.ne_of_lt Ltk.out e.symm)); replace BKy:=Lib.hid (blk_chg BKy.out hc (fun e=>Nat.ne_of_lt Lty.out e.symm)); replace BKr:=Lib.hid (blk_chg BKr.out hc (fun e=>Nat.ne_of_lt Ltr.out e.symm)); replace HT:=Lib.hid (Top_chg HT.out hc (fun k hk e=>Nat.ne_of_gt (DtHT.out k hk) e)); replace HB:=Lib.hid (below_chg HB.out HB.out.size hc (fun k e=>e ▸ GEt.out)); replace BKt:=Lib.hid bk; clear t0 t1 t2 t3 t4 ft0 ft1 ft2 ft3 ft4; clear k0; clear y0 y1 y2 y3 y4 fy0 fy1 fy2 fy3 fy4; clear r0 r1 r2 r3 r4 fr0 fr1 fr2 fr3 fr4; obtain ⟨t0,t1,t2,t3,t4⟩:=cells5 BKt.out; obtain ⟨ft0,ft1,ft2,ft3,ft4⟩:=free5 BKt.out; have k0:=(blk_cell BKk.out 0).trans rfl; obtain ⟨y0,y1,y2,y3,y4⟩:=cells5 BKy.out; obtain ⟨fy0,fy1,fy2,fy3,fy4⟩:=free5 BKy.out; obtain ⟨r0,r1,r2,r3,r4⟩:=cells5 BKr.out; obtain ⟨fr0,fr1,fr2,fr3,fr4⟩:=free5 BKr.out; clear bk hc; have T6:True:=trivial)
       |(clear T6; go_at_call 125; refine (isMap_calls x (Seen.of_top HT.out) _ HBM.out).mono ?_; rintro e w3 ⟨rfl,hb⟩; replace BKt:=Lib.hid (blk_below BKt.out hb); replace BKk:=Lib.hid (blk_below BKk.out hb); replace BKy:=Lib.hid (blk_below BKy.out hb); replace BKr:=Lib.hid (blk_below BKr.out hb); replace HT:=Lib.hid (Top_below HT.out hb); replace HB:=Lib.hid (HB.out.trans (hb.mono HB.out.size)); clear t0 t1 t2 t3 t4 ft0 ft1 ft2 ft3 ft4; clear k0; clear y0 y1 y2 y3 y4 fy0 fy1 fy2 fy3 fy4; clear r0 r1 r2 r3 r4 fr0 fr1 fr2 fr3 fr4; obtain ⟨t0,t1,t2,t3,t4⟩:=cells5 BKt.out; obtain ⟨ft0,ft1,ft2,ft3,ft4⟩:=free5 BKt.out; have k0:=(blk_cell BKk.out 0).trans rfl; obtain ⟨y0,y1,y2,y3,y4⟩:=cells5 BKy.out; obtain ⟨fy0,fy1,fy2,fy3,fy4⟩:=free5 BKy.out; obtain ⟨r0,r1,r2,r3,r4⟩:=cells5 BKr.out; obtain ⟨fr0,fr1,fr2,fr3,fr4⟩:=free5 BKr.out; clear hb; have T7:True:=trivial)
       |(clear T7; go_at_call 126; refine (idx_calls _ _ x.f3 key _ (SRow_at HT.out.1)).mono ?_; rintro e w4 ⟨rfl,rfl⟩; rw [← HKK.out]; have T8:True:=trivial)
       |(clear T8; go_at_call 127; refine (idxF_calls _ _ x.f3 key gk _ (SRow_at HT.out.1) k0).mono ?_; rintro e w5 ⟨rfl,rfl⟩; rw [HAB.out]; have T9:True:=trivial)
       |(clear T9; go_at_call 129; have hal:=below_alloc (Below.refl _ w5) (.cells #[.string key] 9); have hsa:=own_below HT.out.1 hal; refine (insS_row _ x.f3 key x.f3.length _ _ hsa HP.out hl3 (blk_new _ _) (fun k hk e=>Nat.lt_irrefl _ (e ▸ (HT.out.1.lt k hk).2))).mono ?_; rintro e w7 ⟨u3,rfl,hs,hc,hat⟩; have hcA:=(Chg.of_same (S:=fun k=>(Value.slice B3 x.f3.length d3).ownBlock=some k) hal).trans hc; obtain ⟨hn1,hn2,hn3,hn4⟩:=nd3_inv HT.out.2.2; have hu3:∀ k,u3.ownBlock=some k→(Value.slice B3 x.f3.length d3).ownBlock=some k ∨ w5.heap.size≤k:=fun k hk=>hat.elim (fun e=>.inl (e ▸ hk)) (fun e=>.inr (by rw [e] at hk; have:=Option.some.inj hk; simp at this; omega)); have HU3:=Lib.hid (fun k hk=>(hu3 k hk).elim (fun e=>hn1 k e) (fun e e2=>Nat.not_le.2 (HT.out.2.1.choose_spec.1.lt k e2).2 e)); have HU3F:=Lib.hid (fun k hk=>(hu3 k hk).elim (fun e=>hn2 k e) (fun e hm=>Nat.not_le.2 (Top_lt HT.out k (by simp only [topFp,List.mem_append]; exact .inr (.inr hm))) e)); have DrU:=Lib.hid (fun k hk=>(hu3 k hk).elim (fun e=>DrHT.out k (by simp [topFp,e])) (fun e=>Nat.lt_of_lt_of_le (blk_lt BKr.out) e)); have DtU:=Lib.hid (fun k hk=>(hu3 k hk).elim (fun e=>DtHT.out k (by simp [topFp,e])) (fun e=>Nat.lt_of_lt_of_le (blk_lt BKt.out) e)); have GEU:=Lib.hid (fun k hk=>(hu3 k hk).elim (fun e=>GEHT.out k (by simp [topFp,e])) (fun e=>Nat.le_trans HB.out.size e)); have HN3:=Lib.hid hn3; have HN4:=Lib.hid hn4; have HO:=Lib.hid (ORow_chg hcA HT.out.2.1 (fun k hk e=>hn1 k e hk) (fun k hk e=>hn2 k e hk)); replace BKt:=Lib.hid (blk_chg BKt.out hcA (fun e=>Nat.lt_irrefl _ (DtHT.out _ (by simp [topFp,e])))); replace BKk:=Lib.hid (blk_chg BKk.out hcA (fun e=>Nat.lt_irrefl _ (DkHT.out _ (by simp [topFp,e])))); replace BKy:=Lib.hid (blk_chg BKy.out hcA (fun e=>Nat.lt_irrefl _ (DyHT.out _ (by simp [topFp,e])))); replace BKr:=Lib.hid (blk_chg BKr.out hcA (fun e=>Nat.lt_irrefl _ (DrHT.out _ (by simp [topFp,e])))); replace HB:=Lib.hid (below_chg HB.out HB.out.size hcA (fun k e=>GEHT.out k (by simp [topFp,e]))); obtain ⟨X3,nX3,o3,rfl⟩:=row_form hs; have HS:=Lib.hid hs; clear t0 t1 t2 t3 t4 ft0 ft1 ft2 ft3 ft4; clear k0; clear y0 y1 y2 y3 y4 fy0 fy1 fy2 fy3 fy4; clear r0 r1 r2 r3 r4 fr0 fr1 fr2 fr3 fr4; obtain ⟨t0,t1,t2,t3,t4⟩:=cells5 BKt.out; obtain ⟨ft0,ft1,ft2,ft3,ft4⟩:=free5 BKt.out; have k0:=(blk_cell BKk.out 0).trans rfl; obtain ⟨y0,y1,y2,y3,y4⟩:=cells5 BKy.out; obtain ⟨fy0,fy1,fy2,fy3,fy4⟩:=free5 BKy.out; obtain ⟨r0,r1,r2,r3,r4⟩:=cells5 BKr.out; obtain ⟨fr0,fr1,fr2,fr3,fr4⟩:=free5 BKr.out; clear hs hc hat hcA hal hsa hu3 hn1 hn2 hn3 hn4 HT; have T10:True:=trivial)
       |(clear T10; (with_reducible refine gate_store (p:=43) rfl ?_); refine store1_event rfl rfl rfl (g:=gt) (j:=3) (.slice X3 nX3 o3) BKt.out rfl (by first|(go_simp; done)|(go_simp; rfl)) ?_; intro w8 bk hc; replace BKk:=Lib.hid (blk_chg BKk.out hc (fun e=>Nat.ne_of_lt Ltk.out e.symm)); replace BKy:=Lib.hid (blk_chg BKy.out hc (fun e=>Nat.ne_of_lt Lty.out e.symm)); replace BKr:=Lib.hid (blk_chg BKr.out hc (fun e=>Nat.ne_of_lt Ltr.out e.symm)); replace HB:=Lib.hid (below_chg HB.out HB.out.size hc (fun k e=>e ▸ GEt.out)); replace BKt:=Lib.hid bk; replace HS:=Lib.hid (own_chg HS.out hc (fun k hk e=>Nat.ne_of_gt (DtU.out k hk) e)); replace HO:=Lib.hid (ORow_chg hc HO.out (fun k hk e=>Nat.ne_of_gt (DtHT.out k (by simp [topFp,hk])) e) (fun k hk e=>Nat.ne_of_gt (DtHT.out k (by simp only [topFp,List.mem_append]; exact .inr (.inr hk))) e)); clear t0 t1 t2 t3 t4 ft0 ft1 ft2 ft3 ft4; clear k0; clear y0 y1 y2 y3 y4 fy0 fy1 fy2 fy3 fy4; clear r0 r1 r2 r3 r4 fr0 fr1 fr2 fr3 fr4; obtain ⟨t0,t1,t2,t3,t4⟩:=cells5 BKt.out; obtain ⟨ft0,ft1,ft2,ft3,ft4⟩:=free5 BKt.out; have k0:=(blk_cell BKk.out 0).trans rfl; obtain ⟨y0,y1,y2,y3,y4⟩:=cells5 BKy.out; obtain ⟨fy0,fy1,fy2,fy3,fy4⟩:=free5 BKy.out; obtain ⟨r0,r1,r2,r3,r4⟩:=cells5 BKr.out; obtain ⟨fr0,fr1,fr2,fr3,fr4⟩:=free5 BKr.out; clear bk hc; have T11:True:=trivial))
    refine start_ (n:=9) (S:=fun W=>W.cell? ⟨gy,0,none⟩=some (.int .i64 y.f0)∧W.cell? ⟨gy,1,none⟩=some (.int .i64 y.f1)∧W.cell? ⟨gy,2,none⟩=some (.string y.f2)∧W.cell? ⟨gy,3,none⟩=some (.slice C3 y.f3.length e3)∧W.cell? ⟨gy,4,none⟩=some (.slice C4 y.f4.length e4)∧W.cell? ⟨gt,4,none⟩=some (.slice B4 x.f4.length d4)) (ds:=[8]) #[false,false,false,false,false,false,false,false,false] (by kernel_rfl) rfl rfl (⟨y0,y1,y2,y3,y4,t4⟩) (fun hHeld=>?_)
    refine pure_ (i:=0) (N:=some 44) (v:=_) (a':=_) (bs_ 9 1) rfl rfl (by kernel_rfl) (fun _ _ _ h=>h) (Or.inl ⟨by rfl,by intro w'; go_simp; first|with_reducible rfl|rfl⟩) (by simp only [Act.put,List.setIfInBounds_toArray,List.set_cons_zero,List.set_cons_succ]; rfl) ?_
    refine take_ (i:=1) (N:=some 45) (v:=?_) (a':=?_) (bs_ 9 3) rfl rfl (by kernel_rfl) (fun _ _ _ h=>h) (Or.inl ⟨by rfl,?_⟩) hHeld ?_ ?_
    rotate_left
    ·rintro w' ⟨s0,s1,s2,s3,s4,s5⟩
     go_simp
     (first|with_reducible rfl|rfl)
    rotate_left
    ·simp only [Act.put,List.setIfInBounds_toArray,List.set_cons_zero,List.set_cons_succ]
     rfl
    refine pure_ (i:=2) (N:=some 46) (v:=_) (a':=_) (bs_ 9 7) rfl rfl (by kernel_rfl) (fun _ _ _ h=>h) (Or.inl ⟨by rfl,by intro w'; go_simp; first|with_reducible rfl|rfl⟩) (by simp only [Act.put,List.setIfInBounds_toArray,List.set_cons_zero,List.set_cons_succ]; rfl) ?_
    refine take_ (i:=3) (N:=some 47) (v:=?_) (a':=?_) (bs_ 9 15) rfl rfl (by kernel_rfl) (fun _ _ _ h=>h) (Or.inl ⟨by rfl,?_⟩) hHeld ?_ ?_
    rotate_left
    ·rintro w' ⟨s0,s1,s2,s3,s4,s5⟩
     go_simp
     (first|with_reducible rfl|rfl)
    rotate_left
    ·simp only [Act.put,List.setIfInBounds_toArray,List.set_cons_zero,List.set_cons_succ]
     rfl
    refine one_ (i:=4) (N:=some 48) (bs_ 9 31) rfl rfl (by kernel_rfl) (by decide) (fun K hK=>?_)
    refine goes_ Tryz.func124 (by kernel_rfl) rfl #[.agg #[.int .i64 y.f0,.int .i64 y.f1,.string y.f2,.slice C3 y.f3.length e3,.slice C4 y.f4.length e4]] (by rfl) rfl rfl (by (try simp only [List.map_toArray,List.map_cons,List.map_nil]); first|done|rfl) ?_
    replace BKt:=Lib.hid (blk_below BKt.out (below_drew (Below.refl _ _))); replace BKk:=Lib.hid (blk_below BKk.out (below_drew (Below.refl _ _))); replace BKy:=Lib.hid (blk_below BKy.out (below_drew (Below.refl _ _))); replace BKr:=Lib.hid (blk_below BKr.out (below_drew (Below.refl _ _))); replace HB:=Lib.hid (HB.out.trans ((below_drew (Below.refl _ _)).mono HB.out.size)); replace HS:=Lib.hid (own_below HS.out (below_drew (Below.refl _ _))); replace HO:=Lib.hid (ORow_below HO.out (below_drew (Below.refl _ _))); refine (HCY.out _ _ _ _ _ (Kd.C_below P3.out HB.out) q3 (Kd.C_below P4.out HB.out) q4).mono ?_; rintro e w9 ⟨z3,z4,gss,rfl,ht,hg,hb⟩; refine ⟨_,rfl,?_⟩; obtain ⟨E3,h3,rfl,j3,n3⟩:=SRow_C ht.1; obtain ⟨E4,h4,rfl,j4,n4⟩:=ORow_C ht.2.1; clear n3 n4; have DrHY:=Lib.hid (fun k hk=>Nat.lt_of_lt_of_le (blk_lt BKr.out) (hg k hk)); have DtHY:=Lib.hid (fun k hk=>Nat.lt_of_lt_of_le (blk_lt BKt.out) (hg k hk)); have GEHY:=Lib.hid (fun k hk=>Nat.le_trans HB.out.size (hg k hk)); have DOY:=Lib.hid (fun k hk j hj=>Nat.lt_of_lt_of_le (ORow_lt HO.out k hk) (hg j hj)); have DSY:=Lib.hid (fun k hk j hj=>Nat.lt_of_lt_of_le (HS.out.lt k hk).2 (hg j hj)); replace BKt:=Lib.hid (blk_below BKt.out hb); replace BKk:=Lib.hid (blk_below BKk.out hb); replace BKy:=Lib.hid (blk_below BKy.out hb); replace BKr:=Lib.hid (blk_below BKr.out hb); replace HB:=Lib.hid (HB.out.trans (hb.mono HB.out.size)); replace HS:=Lib.hid (own_below HS.out hb); replace HO:=Lib.hid (ORow_below HO.out hb); have HY:=Lib.hid ht; have HNY:=Lib.hid ht.2.2; have HLTt:=Lib.hid (blk_lt BKt.out); have HLTr:=Lib.hid (blk_lt BKr.out); have HLTw:=Lib.hid HB.out.size; clear t0 t1 t2 t3 t4 ft0 ft1 ft2 ft3 ft4; clear k0; clear y0 y1 y2 y3 y4 fy0 fy1 fy2 fy3 fy4; clear r0 r1 r2 r3 r4 fr0 fr1 fr2 fr3 fr4; obtain ⟨t0,t1,t2,t3,t4⟩:=cells5 BKt.out; obtain ⟨ft0,ft1,ft2,ft3,ft4⟩:=free5 BKt.out; have k0:=(blk_cell BKk.out 0).trans rfl; obtain ⟨y0,y1,y2,y3,y4⟩:=cells5 BKy.out; obtain ⟨fy0,fy1,fy2,fy3,fy4⟩:=free5 BKy.out; obtain ⟨r0,r1,r2,r3,r4⟩:=cells5 BKr.out; obtain ⟨fr0,fr1,fr2,fr3,fr4⟩:=free5 BKr.out; clear ht hg hb; have hna:=World.cell?_alloc_past (w:=w9) (.cells #[.int .i64 y.f0,.int .i64 y.f1,.string y.f2,.slice E3 y.f3.length h3,.slice E4 y.f4.length h4] 32) gt 4 (blk_lt BKt.out); rw [t4] at hna
    refine hK.out _ _ (⟨y0,y1,y2,y3,y4,t4⟩) (fun hHeld=>?_)
    clear hK K
    refine norm_ (a':=?_) ?_ ?_
    rotate_left
    ·show Act.put _ (some 48) _=_
     simp only [Act.put,List.setIfInBounds_toArray,List.set_cons_zero,List.set_cons_succ]
     rfl
    refine one_ (i:=5) (N:=some 49) (bs_ 9 63) rfl rfl (by kernel_rfl) (by decide) (fun K hK=>?_)
    refine value_ (w1:=?_) (v:=?_) (by rfl) rfl ?_ ?_
    rotate_left 2
    ·go_simp
     constructor
     ·rfl
     ·rfl
    refine hK.out _ _ (⟨(blk_cell (blk_below BKy.out (below_alloc (Below.refl _ w9) _)) 0).trans rfl,(blk_cell (blk_below BKy.out (below_alloc (Below.refl _ w9) _)) 1).trans rfl,(blk_cell (blk_below BKy.out (below_alloc (Below.refl _ w9) _)) 2).trans rfl,(blk_cell (blk_below BKy.out (below_alloc (Below.refl _ w9) _)) 3).trans rfl,(blk_cell (blk_below BKy.out (below_alloc (Below.refl _ w9) _)) 4).trans rfl,(blk_cell (blk_below BKt.out (below_alloc (Below.refl _ w9) _)) 4).trans rfl⟩) (fun hHeld=>?_)
    clear hK K
    refine norm_ (a':=?_) ?_ ?_
    rotate_left
    ·show Act.put _ (some 49) _=_
     simp only [Act.put,List.setIfInBounds_toArray,List.set_cons_zero,List.set_cons_succ]
     rfl
    refine one_ (i:=6) (N:=some 50) (bs_ 9 127) rfl rfl (by kernel_rfl) (by decide) (fun K hK=>?_)
    refine goes_ Tryz.func130 (by kernel_rfl) rfl #[.slice B4 x.f4.length d4,.int .i64 (x.f3.length:Nat),.slice (some ⟨w9.heap.size,0,none⟩) 1 1] (by rfl) rfl rfl (by (try simp only [List.map_toArray,List.map_cons,List.map_nil]); first|done|rfl) ?_
    have hal:=below_alloc (Below.refl _ w9) (.cells #[.int .i64 y.f0,.int .i64 y.f1,.string y.f2,.slice E3 y.f3.length h3,.slice E4 y.f4.length h4] 32); have hoa:=ORow_below HO.out hal; have hya:=Top_below HY.out hal; have hyo:=(OT_iff _ _ _ _).2 ⟨_,_,gss,rfl,hya.1,hya.2.1,rfl⟩; refine (insN_row _ x.f4 fss y [.int .i64 y.f0,.int .i64 y.f1,.string y.f2,.slice E3 y.f3.length h3,.slice E4 y.f4.length h4] (topFp (.slice E3 y.f3.length h3) (.slice E4 y.f4.length h4) gss) x.f3.length _ _ hoa (fun k hk e=>HN3.out k e hk) hyo (fun k hk e=>Nat.lt_irrefl _ (DOY.out k (List.mem_append.2 (.inl (mem_own.2 e))) k hk)) HP4.out hl4 (blk_new _ _) (fun k hk e=>Nat.lt_irrefl _ (e ▸ ORow_lt HO.out k (List.mem_append.2 (.inl (mem_own.2 hk)))))).mono ?_; rintro e w10 ⟨u4,rfl,ho,hc,hat⟩; refine ⟨_,rfl,?_⟩; have hcA:=(Chg.of_same (S:=fun k=>(Value.slice B4 x.f4.length d4).ownBlock=some k) hal).trans hc; have hu4:∀ k,u4.ownBlock=some k→(Value.slice B4 x.f4.length d4).ownBlock=some k ∨ w9.heap.size≤k:=fun k hk=>hat.elim (fun e=>.inl (e ▸ hk)) (fun e=>.inr (by rw [e] at hk; have:=Option.some.inj hk; simp at this; omega)); have HU4:=Lib.hid hu4; have DO4:=Lib.hid (fun k hk=>Nat.lt_of_lt_of_le (ORow_lt HO.out k hk) (Nat.le_refl _)); have DS4:=Lib.hid (fun k hk=>(HS.out.lt k hk).2); have DY4:=Lib.hid (fun k hk=>Top_lt HY.out k hk); have hS10:=own_chg HS.out hcA (fun k hk e=>HU3.out k hk e); replace HS:=Lib.hid hS10; obtain ⟨X4,nX4,o4,rfl⟩:=row_form ho.choose_spec.1; replace HO:=Lib.hid ho; clear HY; replace BKt:=Lib.hid (blk_chg BKt.out hcA (fun e=>Nat.lt_irrefl _ (DtHT.out _ (by simp [topFp,e])))); replace BKk:=Lib.hid (blk_chg BKk.out hcA (fun e=>Nat.lt_irrefl _ (DkHT.out _ (by simp [topFp,e])))); replace BKy:=Lib.hid (blk_chg BKy.out hcA (fun e=>Nat.lt_irrefl _ (DyHT.out _ (by simp [topFp,e])))); replace BKr:=Lib.hid (blk_chg BKr.out hcA (fun e=>Nat.lt_irrefl _ (DrHT.out _ (by simp [topFp,e])))); replace HB:=Lib.hid (below_chg HB.out HB.out.size hcA (fun k e=>GEHT.out k (by simp [topFp,e]))); clear t0 t1 t2 t3 t4 ft0 ft1 ft2 ft3 ft4; clear k0; clear y0 y1 y2 y3 y4 fy0 fy1 fy2 fy3 fy4; clear r0 r1 r2 r3 r4 fr0 fr1 fr2 fr3 fr4; obtain ⟨t0,t1,t2,t3,t4⟩:=cells5 BKt.out; obtain ⟨ft0,ft1,ft2,ft3,ft4⟩:=free5 BKt.out; have k0:=(blk_cell BKk.out 0).trans rfl; obtain ⟨y0,y1,y2,y3,y4⟩:=cells5 BKy.out; obtain ⟨fy0,fy1,fy2,fy3,fy4⟩:=free5 BKy.out; obtain ⟨r0,r1,r2,r3,r4⟩:=cells5 BKr.out; obtain ⟨fr0,fr1,fr2,fr3,fr4⟩:=free5 BKr.out; clear hal hoa hya hyo hc hat hcA hu4 ho hS10 hna; have hrt:gr ≠ gt:=fun e=>Nat.ne_of_gt Ltr.out e; have htr:gt ≠ gr:=fun e=>Nat.ne_of_lt Ltr.out e
    refine hK.out _ _ (⟨y0,y1,y2,y3,y4,t4⟩) (fun hHeld=>?_)
    clear hK K
    refine norm_ (a':=?_) ?_ ?_
    rotate_left
    ·show Act.put _ (some 50) _=_
     simp only [Act.put,List.setIfInBounds_toArray,List.set_cons_zero,List.set_cons_succ]
     rfl
    refine pure_ (i:=7) (N:=some 51) (v:=_) (a':=_) (bs_ 9 255) rfl rfl (by kernel_rfl) (fun _ _ _ h=>h) (Or.inl ⟨by rfl,by intro w'; go_simp; first|with_reducible rfl|rfl⟩) (by simp only [Act.put,List.setIfInBounds_toArray,List.set_cons_zero,List.set_cons_succ]; rfl) ?_
    refine last_ (i:=8) (N:=none) (bs_ 9 511) rfl rfl (by kernel_rfl) (by decide) (fun K hK=>?_)
    refine skip_ (w1:=?_) (by rfl) rfl ?_ ?_
    rotate_left
    ·go_simp
     rfl
    refine hK.out _ _ ?_
    clear hK K
    refine done_ (by kernel_rfl) ?_
    all_goals
     go_wp2
     rw [HV.out]
     have hcg:=chg_put w10 gt 4 (.slice X4 nX4 o4)
     have hdis:∀ k ∈ (topFp (.slice E3 y.f3.length h3) (.slice E4 y.f4.length h4) gss),k ∉ fss.flatten:=fun k hk hm=>Nat.lt_irrefl _ (DOY.out k (List.mem_append.2 (.inr hm)) k hk)
     have h34:∀ k,(Value.slice X3 nX3 o3).ownBlock=some k→(Value.slice X4 nX4 o4).ownBlock ≠ some k:=fun k hk e=>by
      rcases HU4.out k e with h|h
      ·exact HU3.out k hk h
      ·exact absurd h (Nat.not_le.2 (DS4.out k hk))
     have h3F:∀ k,(Value.slice X3 nX3 o3).ownBlock=some k→k ∉ (fss.take x.f3.length ++ (topFp (.slice E3 y.f3.length h3) (.slice E4 y.f4.length h4) gss)::fss.drop x.f3.length).flatten:=fun k hk hm=>by
      rcases ins_mem hm with hm|hm
      ·exact HU3F.out k hk hm
      ·exact absurd (DSY.out k hk k hm) (Nat.lt_irrefl _)
     have h4F:∀ k,(Value.slice X4 nX4 o4).ownBlock=some k→k ∉ (fss.take x.f3.length ++ (topFp (.slice E3 y.f3.length h3) (.slice E4 y.f4.length h4) gss)::fss.drop x.f3.length).flatten:=fun k hk hm=>by
      rcases HU4.out k hk with h|h
      ·rcases ins_mem hm with hm|hm
       ·exact HN3.out k h hm
       ·exact absurd (DOY.out k (List.mem_append.2 (.inl (mem_own.2 h))) k hm) (Nat.lt_irrefl _)
      ·rcases ins_mem hm with hm|hm
       ·exact absurd h (Nat.not_le.2 (DO4.out k (List.mem_append.2 (.inr hm))))
       ·exact absurd h (Nat.not_le.2 (DY4.out k hm))
     have hndF:(fss.take x.f3.length ++ (topFp (.slice E3 y.f3.length h3) (.slice E4 y.f4.length h4) gss)::fss.drop x.f3.length).flatten.Nodup:=ins_nodup x.f3.length HN4.out HNY.out hdis
     have hrest:∀ k ∈ topFp (.slice X3 nX3 o3) (.slice X4 nX4 o4) (fss.take x.f3.length ++ (topFp (.slice E3 y.f3.length h3) (.slice E4 y.f4.length h4) gss)::fss.drop x.f3.length),gt<k∧gr<k∧w.heap.size≤k:=fun k hk=>by
      simp only [topFp,List.mem_append,mem_own] at hk
      rcases hk with hk|hk|hk
      ·exact ⟨DtU.out k hk,DrU.out k hk,GEU.out k hk⟩
      ·rcases HU4.out k hk with h|h
       ·exact ⟨DtHT.out k (by simp [topFp,h]),DrHT.out k (by simp [topFp,h]),GEHT.out k (by simp [topFp,h])⟩
       ·exact ⟨Nat.lt_of_lt_of_le HLTt.out h,Nat.lt_of_lt_of_le HLTr.out h,Nat.le_trans HLTw.out h⟩
      ·rcases ins_mem hk with hk|hk
       ·have hm:k ∈ topFp (.slice B3 x.f3.length d3) (.slice B4 x.f4.length d4) fss:=by simp only [topFp,List.mem_append]; exact .inr (.inr hk)
        exact ⟨DtHT.out k hm,DrHT.out k hm,GEHT.out k hm⟩
       ·exact ⟨DtHY.out k hk,DrHY.out k hk,GEHY.out k hk⟩
     have HTF:=Lib.hid (show Top _ (.slice X3 nX3 o3) (.slice X4 nX4 o4) ⟨x.f0,x.f1,x.f2,x.f3.take x.f3.length ++ key::x.f3.drop x.f3.length,x.f4.take x.f3.length ++ y::x.f4.drop x.f3.length⟩ (fss.take x.f3.length ++ (topFp (.slice E3 y.f3.length h3) (.slice E4 y.f4.length h4) gss)::fss.drop x.f3.length) from
      Top_chg ⟨HS.out,HO.out,nd3 h34 h3F h4F hndF⟩ hcg (fun k hk e=>Nat.ne_of_gt (hrest k hk).1 e))
     have HRF:=Lib.hid (fun k hk=>(hrest k hk).2.1)
     have HGF:=Lib.hid (fun k hk=>(hrest k hk).2.2)
     have HBF:=Lib.hid (HB.out.setCell (p:=⟨gt,4,none⟩) GEt.out (.slice X4 nX4 o4))
     exact bodyPost_ret (v:=.agg #[.int .i64 x.f0,.int .i64 x.f1,.string x.f2,(.slice X3 nX3 o3),(.slice X4 nX4 o4)]) (by simp [results,Tryz.results64,go_sem,r0,r1,r2,r3,r4,fr0,fr1,fr2,fr3,fr4,hrt,htr]) rfl
      ⟨_,_,_,rfl,Top_chg (S:=fun k=>k=gr) HTF.out (((((chg_put _ gr 0 _).trans (chg_put _ gr 1 _)).trans (chg_put _ gr 2 _)).trans (chg_put _ gr 3 _)).trans (chg_put _ gr 4 _)) (fun k hk e=>Nat.ne_of_gt (HRF.out k hk) e),HGF.out,((((HBF.out.setCell (p:=⟨gr,0,none⟩) GEr.out _).setCell (p:=⟨gr,1,none⟩) GEr.out _).setCell (p:=⟨gr,2,none⟩) GEr.out _).setCell (p:=⟨gr,3,none⟩) GEr.out _).setCell (p:=⟨gr,4,none⟩) GEr.out _⟩
 ·skip
  have HV:Hid (setV x key y=x):=by show _=_; unfold setV; rw [if_neg (fun h=>hm (by rw [HBM.out,decide_eq_true h.1,decide_eq_true h.2]; rfl))]
  obtain rfl:bm=false:=by cases bm<;>simp_all
  go_enter Tryz.func64,Tryz.ntmps64
  go_wp2_with (first
     |(clear T0; (with_reducible refine gate_dst (N:=3) rfl ?_); refine box_event rfl (N:=3) rfl (cs:=#[.int .i64 x.f0,.int .i64 x.f1,.string x.f2,.slice A3 x.f3.length c3,.slice A4 x.f4.length c4]) (t:=32) (by first|(go_simp; done)|(go_simp; rfl)) ?_; intro gt hg wt bk hb; have GEt:=Lib.hid (Nat.le_trans HB.out.size (Nat.le_of_eq hg.symm)); replace HB:=Lib.hid (HB.out.trans (hb.mono HB.out.size)); have BKt:=Lib.hid bk; clear hg bk hb; obtain ⟨t0,t1,t2,t3,t4⟩:=cells5 BKt.out; obtain ⟨ft0,ft1,ft2,ft3,ft4⟩:=free5 BKt.out; have T1:True:=trivial)
     |(clear T1; (with_reducible refine gate_dst (N:=4) rfl ?_); refine box_event rfl (N:=4) rfl (cs:=#[.string key]) (t:=9) (by first|(go_simp; done)|(go_simp; rfl)) ?_; intro gk hg wk bk hb; have GEk:=Lib.hid (Nat.le_trans HB.out.size (Nat.le_of_eq hg.symm)); have Ltk:=Lib.hid (Nat.lt_of_lt_of_le (blk_lt BKt.out) (Nat.le_of_eq hg.symm)); replace BKt:=Lib.hid (blk_below BKt.out hb); replace HB:=Lib.hid (HB.out.trans (hb.mono HB.out.size)); have BKk:=Lib.hid bk; clear hg bk hb; clear t0 t1 t2 t3 t4 ft0 ft1 ft2 ft3 ft4; obtain ⟨t0,t1,t2,t3,t4⟩:=cells5 BKt.out; obtain ⟨ft0,ft1,ft2,ft3,ft4⟩:=free5 BKt.out; have k0:=(blk_cell BKk.out 0).trans rfl; have T2:True:=trivial)
     |(clear T2; (with_reducible refine gate_dst (N:=5) rfl ?_); refine box_event rfl (N:=5) rfl (cs:=#[.int .i64 y.f0,.int .i64 y.f1,.string y.f2,.slice C3 y.f3.length e3,.slice C4 y.f4.length e4]) (t:=32) (by first|(go_simp; done)|(go_simp; rfl)) ?_; intro gy hg wy bk hb; have GEy:=Lib.hid (Nat.le_trans HB.out.size (Nat.le_of_eq hg.symm)); have Lty:=Lib.hid (Nat.lt_of_lt_of_le (blk_lt BKt.out) (Nat.le_of_eq hg.symm)); have Lky:=Lib.hid (Nat.lt_of_lt_of_le (blk_lt BKk.out) (Nat.le_of_eq hg.symm)); replace BKt:=Lib.hid (blk_below BKt.out hb); replace BKk:=Lib.hid (blk_below BKk.out hb); replace HB:=Lib.hid (HB.out.trans (hb.mono HB.out.size)); have BKy:=Lib.hid bk; clear hg bk hb; clear t0 t1 t2 t3 t4 ft0 ft1 ft2 ft3 ft4; clear k0; obtain ⟨t0,t1,t2,t3,t4⟩:=cells5 BKt.out; obtain ⟨ft0,ft1,ft2,ft3,ft4⟩:=free5 BKt.out; have k0:=(blk_cell BKk.out 0).trans rfl; obtain ⟨y0,y1,y2,y3,y4⟩:=cells5 BKy.out; obtain ⟨fy0,fy1,fy2,fy3,fy4⟩:=free5 BKy.out; have T3:True:=trivial)
     |(clear T3; (with_reducible refine gate_dst (N:=6) rfl ?_); refine box_event rfl (N:=6) rfl (cs:=#[.int .i64 0,.int .i64 0,.string ⟨#[]⟩,.slice none 0 0,.slice none 0 0]) (t:=32) (by first|(go_simp; done)|(go_simp; rfl)) ?_; intro gr hg wr bk hb; have GEr:=Lib.hid (Nat.le_trans HB.out.size (Nat.le_of_eq hg.symm)); have Ltr:=Lib.hid (Nat.lt_of_lt_of_le (blk_lt BKt.out) (Nat.le_of_eq hg.symm)); have Lkr:=Lib.hid (Nat.lt_of_lt_of_le (blk_lt BKk.out) (Nat.le_of_eq hg.symm)); have Lyr:=Lib.hid (Nat.lt_of_lt_of_le (blk_lt BKy.out) (Nat.le_of_eq hg.symm)); replace BKt:=Lib.hid (blk_below BKt.out hb); replace BKk:=Lib.hid (blk_below BKk.out hb); replace BKy:=Lib.hid (blk_below BKy.out hb); replace HB:=Lib.hid (HB.out.trans (hb.mono HB.out.size)); have BKr:=Lib.hid bk; clear hg bk hb; clear t0 t1 t2 t3 t4 ft0 ft1 ft2 ft3 ft4; clear k0; clear y0 y1 y2 y3 y4 fy0 fy1 fy2 fy3 fy4; obtain ⟨t0,t1,t2,t3,t4⟩:=cells5 BKt.out; obtain ⟨ft0,ft1,ft2,ft3,ft4⟩:=free5 BKt.out; have k0:=(blk_cell BKk.out 0).trans rfl; obtain ⟨y0,y1,y2,y3,y4⟩:=cells5 BKy.out; obtain ⟨fy0,fy1,fy2,fy3,fy4⟩:=free5 BKy.out; obtain ⟨r0,r1,r2,r3,r4⟩:=cells5 BKr.out; obtain ⟨fr0,fr1,fr2,fr3,fr4⟩:=free5 BKr.out; have T4:True:=trivial)
     |(clear T4; go_at_call 124; refine (HCP.out _ _ _ _ _ (Kd.C_below G3.out HB.out) l3 (Kd.C_below G4.out HB.out) l4).mono ?_; rintro e w1 ⟨v3,v4,fss,rfl,ht,hg,hb⟩; obtain ⟨B3,d3,rfl,m3,n3⟩:=SRow_C ht.1; obtain ⟨B4,d4,rfl,m4,n4⟩:=ORow_C ht.2.1; clear n3 n4; have DtHT:=Lib.hid (fun k hk=>Nat.lt_of_lt_of_le (blk_lt BKt.out) (hg k hk)); have DkHT:=Lib.hid (fun k hk=>Nat.lt_of_lt_of_le (blk_lt BKk.out) (hg k hk)); have DyHT:=Lib.hid (fun k hk=>Nat.lt_of_lt_of_le (blk_lt BKy.out) (hg k hk)); have DrHT:=Lib.hid (fun k hk=>Nat.lt_of_lt_of_le (blk_lt BKr.out) (hg k hk)); have GEHT:=Lib.hid (fun k hk=>Nat.le_trans HB.out.size (hg k hk)); replace BKt:=Lib.hid (blk_below BKt.out hb); replace BKk:=Lib.hid (blk_below BKk.out hb); replace BKy:=Lib.hid (blk_below BKy.out hb); replace BKr:=Lib.hid (blk_below BKr.out hb); replace HB:=Lib.hid (HB.out.trans (hb.mono HB.out.size)); have HT:=Lib.hid ht; clear t0 t1 t2 t3 t4 ft0 ft1 ft2 ft3 ft4; clear k0; clear y0 y1 y2 y3 y4 fy0 fy1 fy2 fy3 fy4; clear r0 r1 r2 r3 r4 fr0 fr1 fr2 fr3 fr4; obtain ⟨t0,t1,t2,t3,t4⟩:=cells5 BKt.out; obtain ⟨ft0,ft1,ft2,ft3,ft4⟩:=free5 BKt.out; have k0:=(blk_cell BKk.out 0).trans rfl; obtain ⟨y0,y1,y2,y3,y4⟩:=cells5 BKy.out; obtain ⟨fy0,fy1,fy2,fy3,fy4⟩:=free5 BKy.out; obtain ⟨r0,r1,r2,r3,r4⟩:=cells5 BKr.out; obtain ⟨fr0,fr1,fr2,fr3,fr4⟩:=free5 BKr.out; clear ht hg hb; have T5:True:=trivial)
     |(clear T5; (with_reducible refine gate_store (p:=3) rfl ?_); refine store5_event rfl rfl rfl (g:=gt) (.int .i64 x.f0) (.int .i64 x.f1) (.string x.f2) (.slice B3 x.f3.length d3) (.slice B4 x.f4.length d4) BKt.out (by first|(go_simp; done)|(go_simp; rfl)) ?_; intro w2 bk hc; replace BKk:=Lib.hid (blk_chg BKk.out hc (fun e=>Nat.ne_of_lt Ltk.out e.symm)); replace BKy:=Lib.hid (blk_chg BKy.out hc (fun e=>Nat.ne_of_lt Lty.out e.symm)); replace BKr:=Lib.hid (blk_chg BKr.out hc (fun e=>Nat.ne_of_lt Ltr.out e.symm)); replace HT:=Lib.hid (Top_chg HT.out hc (fun k hk e=>Nat.ne_of_gt (DtHT.out k hk) e)); replace HB:=Lib.hid (below_chg HB.out HB.out.size hc (fun k e=>e ▸ GEt.out)); replace BKt:=Lib.hid bk; clear t0 t1 t2 t3 t4 ft0 ft1 ft2 ft3 ft4; clear k0; clear y0 y1 y2 y3 y4 fy0 fy1 fy2 fy3 fy4; clear r0 r1 r2 r3 r4 fr0 fr1 fr2 fr3 fr4; obtain ⟨t0,t1,t2,t3,t4⟩:=cells5 BKt.out; obtain ⟨ft0,ft1,ft2,ft3,ft4⟩:=free5 BKt.out; have k0:=(blk_cell BKk.out 0).trans rfl; obtain ⟨y0,y1,y2,y3,y4⟩:=cells5 BKy.out; obtain ⟨fy0,fy1,fy2,fy3,fy4⟩:=free5 BKy.out; obtain ⟨r0,r1,r2,r3,r4⟩:=cells5 BKr.out; obtain ⟨fr0,fr1,fr2,fr3,fr4⟩:=free5 BKr.out; clear bk hc; have T6:True:=trivial)
     |(clear T6; go_at_call 125; refine (isMap_calls x (Seen.of_top HT.out) _ HBM.out).mono ?_; rintro e w3 ⟨rfl,hb⟩; replace BKt:=Lib.hid (blk_below BKt.out hb); replace BKk:=Lib.hid (blk_below BKk.out hb); replace BKy:=Lib.hid (blk_below BKy.out hb); replace BKr:=Lib.hid (blk_below BKr.out hb); replace HT:=Lib.hid (Top_below HT.out hb); replace HB:=Lib.hid (HB.out.trans (hb.mono HB.out.size)); clear t0 t1 t2 t3 t4 ft0 ft1 ft2 ft3 ft4; clear k0; clear y0 y1 y2 y3 y4 fy0 fy1 fy2 fy3 fy4; clear r0 r1 r2 r3 r4 fr0 fr1 fr2 fr3 fr4; obtain ⟨t0,t1,t2,t3,t4⟩:=cells5 BKt.out; obtain ⟨ft0,ft1,ft2,ft3,ft4⟩:=free5 BKt.out; have k0:=(blk_cell BKk.out 0).trans rfl; obtain ⟨y0,y1,y2,y3,y4⟩:=cells5 BKy.out; obtain ⟨fy0,fy1,fy2,fy3,fy4⟩:=free5 BKy.out; obtain ⟨r0,r1,r2,r3,r4⟩:=cells5 BKr.out; obtain ⟨fr0,fr1,fr2,fr3,fr4⟩:=free5 BKr.out; clear hb; have T7:True:=trivial))
  rw [HV.out]
  have HTF:=HT
  have HRF:=DrHT
  have HGF:=GEHT
  have HBF:=HB
  exact bodyPost_ret (v:=.agg #[.int .i64 x.f0,.int .i64 x.f1,.string x.f2,(.slice B3 x.f3.length d3),(.slice B4 x.f4.length d4)]) (by simp [results,Tryz.results64,go_sem,r0,r1,r2,r3,r4,fr0,fr1,fr2,fr3,fr4]) rfl
   ⟨_,_,fss,rfl,Top_chg (S:=fun k=>k=gr) HTF.out (((((chg_put _ gr 0 _).trans (chg_put _ gr 1 _)).trans (chg_put _ gr 2 _)).trans (chg_put _ gr 3 _)).trans (chg_put _ gr 4 _)) (fun k hk e=>Nat.ne_of_gt (HRF.out k hk) e),HGF.out,((((HBF.out.setCell (p:=⟨gr,0,none⟩) GEr.out _).setCell (p:=⟨gr,1,none⟩) GEr.out _).setCell (p:=⟨gr,2,none⟩) GEr.out _).setCell (p:=⟨gr,3,none⟩) GEr.out _).setCell (p:=⟨gr,4,none⟩) GEr.out _⟩
end Go.Proofs.YtdlhidjphaaklaaGreat.H
end
section
namespace Go.Proofs.YtdlhidjphaaklaaGreat.V
open Go Go.RowKit Go.Proofs.YtdlhidjphaaklaaGreat Go.Proofs.YtdlhidjphaaklaaGreat.P Go.Proofs.YtdlhidjphaaklaaGreatW
set_option maxRecDepth 100000
attribute [local irreducible] thenQ blockQ AWP AOps FinQ Draw One PrintWords.bt
end Go.Proofs.YtdlhidjphaaklaaGreat.V
namespace Go.Proofs.YtdlhidjphaaklaaGreat.P
open Go.RowKit Go.Proofs.YtdlhidjphaaklaaGreatW.PrintWords Go.Proofs.YtdlhidjphaaklaaGreatW.PrintLast Go.Proofs.YtdlhidjphaaklaaGreatW.PrintMore
theorem impl_Set_given (a0_0 a0_1:Int) (a0_2:ByteArray) (A0_3:Option Addr) (c0_3:Nat) (l0_3:List ByteArray) (A0_4:Option Addr) (c0_4:Nat) (l0_4:List S32) (a1:ByteArray) (a2_0 a2_1:Int) (a2_2:ByteArray) (A2_3:Option Addr) (c2_3:Nat) (l2_3:List ByteArray) (A2_4:Option Addr) (c2_4:Nat) (l2_4:List S32) (r1 r2:Int) (r3:ByteArray) (r4:List ByteArray) (r5:List S32) (w:World)
  (hr0_3:Kd.C Kd.string w A0_3 l0_3.length l0_3) (hc0_3:l0_3.length≤c0_3) (hr0_4:Kd.C k32 w A0_4 l0_4.length l0_4) (hc0_4:l0_4.length≤c0_4) (hr2_3:Kd.C Kd.string w A2_3 l2_3.length l2_3) (hc2_3:l2_3.length≤c2_3) (hr2_4:Kd.C k32 w A2_4 l2_4.length l2_4) (hc2_4:l2_4.length≤c2_4) (h:impl_Set.f a0_0 a0_1 a0_2 l0_3 l0_4 a1 a2_0 a2_1 a2_2 l2_3 l2_4=some (r1,r2,r3,r4,r5)) :
  Calls Tryz.prog 64 #[.agg #[.int .i64 a0_0,.int .i64 a0_1,.string a0_2,.slice A0_3 l0_3.length c0_3,.slice A0_4 l0_4.length c0_4],.string a1,.agg #[.int .i64 a2_0,.int .i64 a2_1,.string a2_2,.slice A2_3 l2_3.length c2_3,.slice A2_4 l2_4.length c2_4]] w fun e w'=>∃ v3_ v4_:Value,e=.returned (.agg #[.int .i64 r1,.int .i64 r2,.string r3,v3_,v4_])∧Kd.R Kd.string 9 w' w.heap.size (fun _=>True) v3_ r4∧Kd.R k32 32 w' w.heap.size (fun k_=>some k_ ≠ (v3_:Value).ownBlock) v4_ r5∧Below w.heap.size w w':=by
 unfold impl_Set.f at h
 split at h
 ·rename_i hc
  simp only [Option.some.injEq,Prod.mk.injEq] at h
  obtain ⟨rfl,rfl,rfl,rfl,rfl⟩:=h
  exact (H.set_calls ⟨a0_0,a0_1,a0_2,l0_3,l0_4⟩ a1 ⟨a2_0,a2_1,a2_2,l2_3,l2_4⟩ hc.1 hc.2 A0_3 A0_4 A2_3 A2_4 c0_3 c0_4 c2_3 c2_4 w hr0_3 hc0_3 hr0_4 hc0_4 hr2_3 hc2_3 hr2_4 hc2_4).mono fun e w' hm=>H.Made_R hm
 ·cases h
end Go.Proofs.YtdlhidjphaaklaaGreat.P
namespace Go.Proofs.YtdlhidjphaaklaaGreat.V
open Go Go.RowKit Go.Proofs.YtdlhidjphaaklaaGreat Go.Proofs.YtdlhidjphaaklaaGreat.P Go.Proofs.YtdlhidjphaaklaaGreatW
theorem impl_Set_fn {a0_0 a0_1:Int} {a0_2:ByteArray} {l0_3:List ByteArray} {l0_4:List S32} {a1:ByteArray} {a2_0 a2_1:Int} {a2_2:ByteArray} {l2_3:List ByteArray} {l2_4:List S32} {r:_} (H:impl_Set.f a0_0 a0_1 a0_2 l0_3 l0_4 a1 a2_0 a2_1 a2_2 l2_3 l2_4=some r):Fn Tryz.prog 64 [.agg [.val (.int .i64 a0_0),.val (.int .i64 a0_1),.val (.string a0_2),.row (l0_3.map (cS)) .no,.row (l0_4.map (c32)) .no],.val (.string a1),.agg [.val (.int .i64 a2_0),.val (.int .i64 a2_1),.val (.string a2_2),.row (l2_3.map (cS)) .no,.row (l2_4.map (c32)) .no]] [] (.agg [.val (.int .i64 r.1),.val (.int .i64 r.2.1),.val (.string r.2.2.1),.row (r.2.2.2.1.map (cS)) .no,.row (r.2.2.2.2.map (c32)) .no]) []:=by
 refine fn_below (fun F gs w vs hv=>?_) rfl
 obtain ⟨r1,r2,r3,r4,r5⟩:=r
 obtain ⟨vg1,wg1,rfl,g1,g2⟩:=reps_cons hv
 obtain ⟨ug3,rfl,g3⟩:=rep_agg g1
 obtain ⟨vg4,wg4,rfl,g4,g5⟩:=reps_cons g3
 obtain rfl:=(rep_val g4).1
 obtain ⟨vg6,wg6,rfl,g6,g7⟩:=reps_cons g5
 obtain rfl:=(rep_val g6).1
 obtain ⟨vg8,wg8,rfl,g8,g9⟩:=reps_cons g7
 obtain rfl:=(rep_val g8).1
 obtain ⟨vg10,wg10,rfl,g10,g11⟩:=reps_cons g9
 obtain ⟨A0_3,c0_3,rfl,hc0_3,hr0_3⟩:=row_of (ka_string).len (fun x _ cs h=>(ka_string).of h) g10
 obtain ⟨vg12,wg12,rfl,g12,g13⟩:=reps_cons g11
 obtain ⟨A0_4,c0_4,rfl,hc0_4,hr0_4⟩:=row_of (ka32).len (fun x _ cs h=>(ka32).of h) g12
 obtain rfl:=reps_nil g13
 obtain ⟨vg14,wg14,rfl,g14,g15⟩:=reps_cons g2
 obtain rfl:=(rep_val g14).1
 obtain ⟨vg16,wg16,rfl,g16,g17⟩:=reps_cons g15
 obtain ⟨ug18,rfl,g18⟩:=rep_agg g16
 obtain ⟨vg19,wg19,rfl,g19,g20⟩:=reps_cons g18
 obtain rfl:=(rep_val g19).1
 obtain ⟨vg21,wg21,rfl,g21,g22⟩:=reps_cons g20
 obtain rfl:=(rep_val g21).1
 obtain ⟨vg23,wg23,rfl,g23,g24⟩:=reps_cons g22
 obtain rfl:=(rep_val g23).1
 obtain ⟨vg25,wg25,rfl,g25,g26⟩:=reps_cons g24
 obtain ⟨A2_3,c2_3,rfl,hc2_3,hr2_3⟩:=row_of (ka_string).len (fun x _ cs h=>(ka_string).of h) g25
 obtain ⟨vg27,wg27,rfl,g27,g28⟩:=reps_cons g26
 obtain ⟨A2_4,c2_4,rfl,hc2_4,hr2_4⟩:=row_of (ka32).len (fun x _ cs h=>(ka32).of h) g27
 obtain rfl:=reps_nil g28
 obtain rfl:=reps_nil g17
 refine (impl_Set_given _ _ _ A0_3 c0_3 _ A0_4 c0_4 _ _ _ _ _ A2_3 c2_3 _ A2_4 c2_4 _ _ _ _ _ _ w hr0_3 hc0_3 hr0_4 hc0_4 hr2_3 hc2_3 hr2_4 hc2_4 H).mono ?_
 rintro e w' ⟨v3_,v4_,rfl,h1_,h2_,h3_⟩
 exact ⟨_,rfl,(rep_agg_mk (reps_cons_mk (Rep.val _ rfl) (reps_cons_mk (Rep.val _ rfl) (reps_cons_mk (Rep.val _ rfl) (reps_cons_mk (row_mk [] (by decide) (ka_string).len (ka_string).fl (fun x _ cs ok' h=>(ka_string).made [] h) h1_) (reps_cons_mk (row_mk [] (by decide) (ka32).len (ka32).fl (fun x _ cs ok' h=>(ka32).made [] h) h2_) reps_nil_mk))))) rfl),h3_⟩
end Go.Proofs.YtdlhidjphaaklaaGreat.V
namespace Go.Proofs.YtdlhidjphaaklaaGreat.P
open Go.RowKit Go.Proofs.YtdlhidjphaaklaaGreatW.PrintWords Go.Proofs.YtdlhidjphaaklaaGreatW.PrintLast Go.Proofs.YtdlhidjphaaklaaGreatW.PrintMore
set_option maxHeartbeats 1000000 in
set_option maxRecDepth 100000 in
theorem strings_IndexByte.calls0 (s:ByteArray) (c:Int) (w:World) :
  Calls Tryz.prog 206 #[.string s,.int .u8 c] w fun e w'=>e=.returned (.int .i64 (Lib.indexByte s.data.toList c.toNat.toUInt8))∧w'=w:=by
 go_enter Tryz.func206,Tryz.ntmps206
 go_wp2
 rw [run_callFunc_extern Tryz.func218 (by kernel_rfl) (by kernel_rfl) (by kernel_rfl) (e:=Extern.BytealgIndexByte.indexByte) (by kernel_rfl),Lib.run_indexByteString]
 simp only [Result.andThen]
 rw [Oper.upon_value]
 go_wp2
 go_ret
 exact ⟨rfl,rfl⟩
set_option maxHeartbeats 1000000 in
set_option maxRecDepth 100000 in
theorem strings_IndexByte_given (a0:ByteArray) (a1:Int) (r:Int) (w:World) (h:strings_IndexByte.f a0 a1=some r) :
  Calls Tryz.prog 185 #[.string a0,.int .u8 a1] w fun e w'=>e=.returned (.int .i64 r)∧Drawn0 w w':=by
 obtain rfl:=Option.some.inj h
 clear h
 go_enter Tryz.func185,Tryz.ntmps185
 go_wp2_with (go_at_call 206; refine (strings_IndexByte.calls0 _ _ _).mono ?_; rintro e w' ⟨rfl,rfl⟩)
 go_ret
 exact ⟨rfl,Drawn0.refl _⟩
end Go.Proofs.YtdlhidjphaaklaaGreat.P
namespace Go.Proofs.YtdlhidjphaaklaaGreat.V
open Go Go.RowKit Go.Proofs.YtdlhidjphaaklaaGreat Go.Proofs.YtdlhidjphaaklaaGreat.P Go.Proofs.YtdlhidjphaaklaaGreatW
theorem strings_IndexByte_fn {a0:ByteArray} {a1:Int} {r:Int} (H:strings_IndexByte.f a0 a1=some r):Fn Tryz.prog 185 [.val (.string a0),.val (.int .u8 a1)] [] (.val (.int .i64 r)) []:=by
 refine fn_below (fun F gs w vs hv=>?_) rfl
 obtain ⟨vg1,wg1,rfl,g1,g2⟩:=reps_cons hv
 obtain rfl:=(rep_val g1).1
 obtain ⟨vg3,wg3,rfl,g3,g4⟩:=reps_cons g2
 obtain rfl:=(rep_val g3).1
 obtain rfl:=reps_nil g4
 refine (strings_IndexByte_given _ _ _ w H).mono ?_
 rintro e w' ⟨rfl,h1_⟩
 exact ⟨_,rfl,(Rep.val _ rfl),h1_.below⟩
end Go.Proofs.YtdlhidjphaaklaaGreat.V
end
section
namespace Go.Proofs.YtdlhidjphaaklaaGreat.V
open Go Go.RowKit Go.Proofs.YtdlhidjphaaklaaGreat Go.Proofs.YtdlhidjphaaklaaGreat.P Go.Proofs.YtdlhidjphaaklaaGreatW
set_option maxRecDepth 100000
attribute [local irreducible] thenQ blockQ AWP AOps FinQ Draw One PrintWords.bt
abbrev impl_from_P:Prop:=∀ {a0:Int} {a1:Int} {a2:Int} {r:Bool} (H:impl_from.f a0 a1 a2=some r),Fn Tryz.prog 101 [.val (.int .i64 a0),.val (.int .i64 a1),.val (.int .i64 a2)] [] (.val (.bool r)) []
abbrev impl_isDigit_P:Prop:=∀ {a0:Int} {r:Bool} (H:impl_isDigit.f a0=some r),Fn Tryz.prog 153 [.val (.int .u8 a0)] [] (.val (.bool r)) []
abbrev impl_NameOk_P:Prop:=∀ {k:Nat} {a0:ByteArray} {r:Bool} (H:impl_NameOk.f k a0=some r),Fn Tryz.prog 103 [.val (.string a0)] [] (.val (.bool r)) []
abbrev impl_MetricOk_P:Prop:=∀ {k:Nat} {a0_0:ByteArray} {a0_1:Int} {a0_2:Int} {r:Bool} (H:impl_MetricOk.f k a0_0 a0_1 a0_2=some r),Fn Tryz.prog 120 [.agg [.val (.string a0_0),.val (.int .i64 a0_1),.val (.int .i64 a0_2)]] [] (.val (.bool r)) []
abbrev impl_isMany_P:Prop:=∀ {a0:Int} {r:Bool} (H:impl_isMany.f a0=some r),Fn Tryz.prog 161 [.val (.int .i64 a0)] [] (.val (.bool r)) []
abbrev impl_PaceOk_P:Prop:=∀ {a0_0:Int} {a0_1:Int} {a0_2:Int} {a0_3:Int} {r:Bool} (H:impl_PaceOk.f a0_0 a0_1 a0_2 a0_3=some r),Fn Tryz.prog 121 [.agg [.val (.int .i64 a0_0),.val (.int .i64 a0_1),.val (.int .i64 a0_2),.val (.int .i64 a0_3)]] [] (.val (.bool r)) []
abbrev impl_isLetter_P:Prop:=∀ {a0:Int} {r:Bool} (H:impl_isLetter.f a0=some r),Fn Tryz.prog 184 [.val (.int .u8 a0)] [] (.val (.bool r)) []
abbrev impl_PlainOk_P:Prop:=∀ {k:Nat} {a0:ByteArray} {r:Bool} (H:impl_PlainOk.f k a0=some r),Fn Tryz.prog 162 [.val (.string a0)] [] (.val (.bool r)) []
abbrev impl_TextOk_P:Prop:=∀ {k:Nat} {a0:ByteArray} {r:Bool} (H:impl_TextOk.f k a0=some r),Fn Tryz.prog 164 [.val (.string a0)] [] (.val (.bool r)) []
abbrev stringslite_HasPrefix_P:Prop:=∀ {a0:ByteArray} {a1:ByteArray} {r:Bool} (H:stringslite_HasPrefix.f a0 a1=some r),Fn Tryz.prog 186 [.val (.string a0),.val (.string a1)] [] (.val (.bool r)) []
abbrev strings_HasPrefix_P:Prop:=∀ {a0:ByteArray} {a1:ByteArray} {r:Bool} (H:strings_HasPrefix.f a0 a1=some r),Fn Tryz.prog 163 [.val (.string a0),.val (.string a1)] [] (.val (.bool r)) []
abbrev impl_notesOk_P:Prop:=∀ {k:Nat} {l0:List (S124)} {r:Bool} (H:impl_notesOk.f k l0=some r),Fn Tryz.prog 122 [.row (l0.map (c124)) .no] [] (.val (.bool r)) []
abbrev impl_OrderOk_P:Prop:=∀ {k:Nat} {a0_0:ByteArray} {a0_1:ByteArray} {a0_2:Int} {a0_3:Int} {l0_4:List (S61)} {a0_5:Int} {a0_6:Int} {a0_7:Int} {a0_8:Int} {l0_9:List (S124)} {r:Bool} (H:impl_OrderOk.f k a0_0 a0_1 a0_2 a0_3 l0_4 a0_5 a0_6 a0_7 a0_8 l0_9=some r),Fn Tryz.prog 62 [.agg [.val (.string a0_0),.val (.string a0_1),.val (.int .i64 a0_2),.val (.int .i64 a0_3),.row (l0_4.map (c61)) .no,.val (.int .i64 a0_5),.val (.int .i64 a0_6),.val (.int .i64 a0_7),.val (.int .i64 a0_8),.row (l0_9.map (c124)) .no]] [] (.val (.bool r)) []
set_option maxHeartbeats 16000000 in
theorem grp_impl_from:(impl_from_P)∧(impl_isDigit_P)∧(impl_from_P→impl_isDigit_P→impl_NameOk_P)∧(impl_from_P→impl_NameOk_P→impl_MetricOk_P)∧(impl_from_P→impl_isMany_P)∧(impl_from_P→impl_isMany_P→impl_PaceOk_P)∧(impl_isLetter_P)∧(impl_from_P→impl_isDigit_P→impl_isLetter_P→impl_PlainOk_P)∧(impl_from_P→impl_TextOk_P)∧(stringslite_HasPrefix_P)∧(stringslite_HasPrefix_P→strings_HasPrefix_P)∧(impl_PlainOk_P→impl_TextOk_P→strings_HasPrefix_P→impl_notesOk_P)∧(impl_from_P→impl_NameOk_P→impl_MetricOk_P→impl_PaceOk_P→impl_notesOk_P→impl_OrderOk_P):=by
 refine ⟨?_,?_,?_,?_,?_,?_,?_,?_,?_,?_,?_,?_,?_⟩
 intro a0 a1 a2 r H; refine w_fn (n:=15) Tryz.func101 rfl rfl rfl rfl rfl ?_; unfold impl_from.f at H; try dsimp only at H
 rotate_left
 intro a0 r H; refine w_fn (n:=9) Tryz.func153 rfl rfl rfl rfl rfl ?_; unfold impl_isDigit.f at H; try dsimp only at H
 rotate_left
 intro q_impl_from q_impl_isDigit k a0 r H; refine w_fn (n:=43) Tryz.func103 rfl rfl rfl rfl rfl ?_; unfold impl_NameOk.f at H; try dsimp only at H
 rotate_left
 intro q_impl_from q_impl_NameOk k a0_0 a0_1 a0_2 r H; refine w_fn (n:=16) Tryz.func120 rfl rfl rfl rfl rfl ?_; unfold impl_MetricOk.f at H; try dsimp only at H
 rotate_left
 intro q_impl_from a0 r H; refine w_fn (n:=5) Tryz.func161 rfl rfl rfl rfl rfl ?_; unfold impl_isMany.f at H; try dsimp only at H
 rotate_left
 intro q_impl_from q_impl_isMany a0_0 a0_1 a0_2 a0_3 r H; refine w_fn (n:=21) Tryz.func121 rfl rfl rfl rfl rfl ?_; unfold impl_PaceOk.f at H; try dsimp only at H
 rotate_left
 intro a0 r H; refine w_fn (n:=17) Tryz.func184 rfl rfl rfl rfl rfl ?_; unfold impl_isLetter.f at H; try dsimp only at H
 rotate_left
 intro q_impl_from q_impl_isDigit q_impl_isLetter k a0 r H; refine w_fn (n:=48) Tryz.func162 rfl rfl rfl rfl rfl ?_; unfold impl_PlainOk.f at H; try dsimp only at H
 rotate_left
 intro q_impl_from k a0 r H; refine w_fn (n:=19) Tryz.func164 rfl rfl rfl rfl rfl ?_; unfold impl_TextOk.f at H; try dsimp only at H
 rotate_left
 intro a0 a1 r H; refine w_fn (n:=18) Tryz.func186 rfl rfl rfl rfl rfl ?_; unfold stringslite_HasPrefix.f at H; try dsimp only at H
 rotate_left
 intro q_stringslite_HasPrefix a0 a1 r H; refine w_fn (n:=8) Tryz.func163 rfl rfl rfl rfl rfl ?_; unfold strings_HasPrefix.f at H; try dsimp only at H
 rotate_left
 intro q_impl_PlainOk q_impl_TextOk q_strings_HasPrefix k l0 r H; refine w_fn (n:=52) Tryz.func122 rfl rfl rfl rfl rfl ?_; unfold impl_notesOk.f at H; try dsimp only at H
 rotate_left
 intro q_impl_from q_impl_NameOk q_impl_MetricOk q_impl_PaceOk q_impl_notesOk k a0_0 a0_1 a0_2 a0_3 l0_4 a0_5 a0_6 a0_7 a0_8 l0_9 r H; refine w_fn (n:=69) Tryz.func62 rfl rfl rfl rfl rfl ?_; unfold impl_OrderOk.f at H; try dsimp only at H
 rotate_left
 repeat' first
  |exact WB.nil _
  |refine WB.cons ?_ ?_
  |exact WL.nil
  |refine WL.cons ?_ ?_
  |exact W1.same _
  |exact W1.no _ _
  |exact W1.any _ rfl
  |exact sub3_nil
  |refine sub3_cons rfl ?_ ?_
  |rfl
  |(refine one_id ?_; first
   |refine s_move rfl ?_
   |refine s_load rfl rfl rfl ?_
   |refine s_fldb rfl ?_
   |refine s_add64 rfl rfl ?_
   |refine s_sub64 rfl rfl ?_
   |refine s_bin rfl rfl rfl ?_
   |refine s_assign rfl ?_
   |refine s_pick rfl rfl ?_
   |refine s_loadr rfl rfl rfl ?_
   |refine s_fldr rfl ?_
   |refine s_not rfl ?_
   |refine s_lens rfl ?_
   |refine s_lenm rfl ?_
   |(refine s_bt rfl rfl ?_ ?_ ?_; (focus (first|assumption|decide|omega)); (focus (first|assumption|decide|omega)))
   |refine s_ix124 rfl rfl ‹_› ‹_› rfl ?_
   |(refine s_ix124 rfl rfl ?_ ?_ rfl ?_; (focus (first|assumption|decide|omega)); (focus (first|assumption|decide|omega)))
   |refine s_ix61 rfl rfl ‹_› ‹_› rfl ?_
   |(refine s_ix61 rfl rfl ?_ ?_ rfl ?_; (focus (first|assumption|decide|omega)); (focus (first|assumption|decide|omega)))
   |refine s_conv rfl ?_
   |(refine s_substr rfl rfl rfl ?_ ?_ ?_ ?_; (focus (first|assumption|decide|omega)); (focus (first|assumption|decide|omega)); (focus (first|assumption|decide|omega)))
   |(have hb:=Option.bind_eq_some_iff.1 H; clear H; obtain ⟨t,hA,H⟩:=hb; refine s_call rfl (by first|exact strings_IndexByte_fn hA|exact q_impl_from hA|exact q_impl_isDigit hA|exact q_impl_NameOk hA|exact q_impl_MetricOk hA|exact q_impl_isMany hA|exact q_impl_PaceOk hA|exact q_impl_isLetter hA|exact q_impl_PlainOk hA|exact q_impl_TextOk hA|exact q_stringslite_HasPrefix hA|exact q_strings_HasPrefix hA|exact q_impl_notesOk hA) (by first|rfl|(simp only [L25_eq,L32_eq,c25_eq,c32_eq]; rfl)|(simp only [List.map_cons,List.map_nil,L25_eq,L32_eq,c25_eq,c32_eq]; rfl)) rfl rfl rfl ?_)
   )
  |(refine q_id ?_; first
   |refine q_box rfl rfl rfl rfl rfl rfl rfl ?_
   |refine q_alloc rfl rfl rfl rfl rfl ?_
   |refine q_one rfl rfl rfl rfl rfl ?_
   |refine q_nil rfl ?_
   |refine q_store rfl rfl rfl rfl rfl rfl rfl rfl rfl rfl ?_
   |(refine q_run rfl rfl rfl rfl ?_ rfl rfl ?_; focus (first|with_reducible rfl|(simp only [Bool.not_true,Bool.not_false]; done)))
   |(refine q_skip rfl rfl rfl rfl ?_ rfl rfl ?_; focus (first|with_reducible rfl|(simp only [Bool.not_true,Bool.not_false]; done)))
   |refine q_dead rfl rfl rfl rfl rfl rfl ?_
   )
  |(refine w_id ?_; first
   |refine w_seq rfl ?_
   |refine w_region rfl ?_
   |refine w_block rfl ?_
   |refine w_ret rfl ?_
   |refine w_skip rfl ?_
   |refine w_exit rfl ?_
   |(refine w_true rfl rfl ?_ ?_; focus (first|with_reducible rfl|(simp only [Bool.not_true,Bool.not_false]; done)))
   |(refine w_false rfl rfl ?_ ?_; focus (first|with_reducible rfl|(simp only [Bool.not_true,Bool.not_false]; done)))
   |(refine w_loop3 (fun (v:(ByteArray) × (Int) × (Int))=>⟨43,[(0,.val (.string v.1)),(6,.val (.int .i64 v.2.1)),(7,.val (.int .i64 v.2.2))],[],[]⟩) (fun k v=>impl_NameOk.l0 k v.1 v.2.1 v.2.2) _ (_,_,_) rfl (fun _=>rfl) (fun _ _=>rfl) ⟨rfl,?_,?_,rfl,?_,rfl,rfl⟩ rfl H ?_; rotate_right; clear H; rintro k ⟨x0,x6,x7⟩ hk H; simp only [impl_NameOk.l0] at H; dsimp only)
   |(refine w_loop3 (fun (v:(ByteArray) × (Int) × (Int))=>⟨48,[(0,.val (.string v.1)),(5,.val (.int .i64 v.2.1)),(6,.val (.int .i64 v.2.2))],[],[]⟩) (fun k v=>impl_PlainOk.l0 k v.1 v.2.1 v.2.2) _ (_,_,_) rfl (fun _=>rfl) (fun _ _=>rfl) ⟨rfl,?_,?_,rfl,?_,rfl,rfl⟩ rfl H ?_; rotate_right; clear H; rintro k ⟨x0,x5,x6⟩ hk H; simp only [impl_PlainOk.l0] at H; dsimp only)
   |(refine w_loop3 (fun (v:(ByteArray) × (Int) × (Int))=>⟨19,[(0,.val (.string v.1)),(5,.val (.int .i64 v.2.1)),(6,.val (.int .i64 v.2.2))],[],[]⟩) (fun k v=>impl_TextOk.l0 k v.1 v.2.1 v.2.2) _ (_,_,_) rfl (fun _=>rfl) (fun _ _=>rfl) ⟨rfl,?_,?_,rfl,?_,rfl,rfl⟩ rfl H ?_; rotate_right; clear H; rintro k ⟨x0,x5,x6⟩ hk H; simp only [impl_TextOk.l0] at H; dsimp only)
   |refine w_draw (c:=cl (cr (cl (cl (cr (cr (cl (cl (cr (cl (cr (bo Tryz.f122)))))))))))) 36 [] rfl (by kernel_rfl) rfl ?_
   |(refine w_loop3 (fun (v:(List (S124)) × (List (S124)) × (Int) × (Int))=>⟨52,[(0,.row (v.1.map c124) .no),(5,.row (v.2.1.map c124) .no),(6,.val (.int .i64 v.2.2.1)),(7,.val (.int .i64 v.2.2.2))],[],[]⟩) (fun k v=>impl_notesOk.l0 k v.1 v.2.1 v.2.2.1 v.2.2.2) _ (_,_,_,_) rfl (fun _=>rfl) (fun _ _=>rfl) ⟨rfl,?_,?_,rfl,?_,rfl,rfl⟩ rfl H ?_; rotate_right; clear H; rintro k ⟨x0,x5,x6,x7⟩ hk H; simp only [impl_notesOk.l0] at H; dsimp only)
   |refine w_draw (c:=cl (cr (cl (cl (cr (cr (cl (cl (cr (cl (cr (bo Tryz.f62)))))))))))) 19 [] rfl (by kernel_rfl) rfl ?_
   |(refine w_loop3 (fun (v:(List (S61)) × (Int) × (Int) × (ByteArray) × (ByteArray) × (Int) × (Int) × (List (S61)) × (Int) × (Int) × (Int) × (Int) × (List (S124)))=>⟨69,[(6,.row (v.1.map c61) .no),(7,.val (.int .i64 v.2.1)),(8,.val (.int .i64 v.2.2.1)),(1,.ptr 0 0)],[[.val (.string v.2.2.2.1),.val (.string v.2.2.2.2.1),.val (.int .i64 v.2.2.2.2.2.1),.val (.int .i64 v.2.2.2.2.2.2.1),.row (v.2.2.2.2.2.2.2.1.map c61) .no,.val (.int .i64 v.2.2.2.2.2.2.2.2.1),.val (.int .i64 v.2.2.2.2.2.2.2.2.2.1),.val (.int .i64 v.2.2.2.2.2.2.2.2.2.2.1),.val (.int .i64 v.2.2.2.2.2.2.2.2.2.2.2.1),.row (v.2.2.2.2.2.2.2.2.2.2.2.2.map c124) .no]],[]⟩) (fun k v=>impl_OrderOk.l0 k v.1 v.2.1 v.2.2.1 v.2.2.2.1 v.2.2.2.2.1 v.2.2.2.2.2.1 v.2.2.2.2.2.2.1 v.2.2.2.2.2.2.2.1 v.2.2.2.2.2.2.2.2.1 v.2.2.2.2.2.2.2.2.2.1 v.2.2.2.2.2.2.2.2.2.2.1 v.2.2.2.2.2.2.2.2.2.2.2.1 v.2.2.2.2.2.2.2.2.2.2.2.2) _ (_,_,_,_,_,_,_,_,_,_,_,_,_) rfl (fun _=>rfl) (fun _ _=>rfl) ⟨rfl,?_,?_,rfl,?_,rfl,rfl⟩ rfl H ?_; rotate_right; clear H; rintro k ⟨x6,x7,x8,x841000,x841001,x841002,x841003,x841004,x841005,x841006,x841007,x841008,x841009⟩ hk H; simp only [impl_OrderOk.l0] at H; dsimp only)
   )
  |(refine t_id ?_; first
   |refine t_norm ?_
   |refine t_exit ?_
   |refine t_ret ?_
   )
  |(refine b_id ?_; first
   |refine b_here ?_
   |refine b_norm ?_
   |refine b_ret ?_
   )
  |(refine e_id ?_; first
   |refine e_one rfl rfl rfl rfl rfl ?_
   |refine e_end rfl ?_
   |(refine e_run rfl rfl rfl rfl ?_ rfl rfl ?_; focus (first|with_reducible rfl|(simp only [Bool.not_true,Bool.not_false]; done)))
   |(refine e_skip rfl rfl rfl rfl ?_ rfl rfl ?_; focus (first|with_reducible rfl|(simp only [Bool.not_true,Bool.not_false]; done)))
   |refine e_dead rfl rfl rfl rfl rfl rfl ?_
   )
  |(simp (disch:=assumption) only [decide_eq_true,decide_eq_false])
  |(refine ⟨_,(_,_,_),?_,?_,H⟩; (focus omega); refine ⟨rfl,?_,?_,rfl,?_,rfl,rfl⟩)
  |(refine ⟨_,(_,_,_,_),?_,?_,H⟩; (focus omega); refine ⟨rfl,?_,?_,rfl,?_,rfl,rfl⟩)
  |(refine ⟨_,(_,_,_,_,_,_,_,_,_,_,_,_,_),?_,?_,H⟩; (focus omega); refine ⟨rfl,?_,?_,rfl,?_,rfl,rfl⟩)
  |(obtain rfl:=Option.some.inj H)
  |exact fq1b (.inr rfl) rfl (by first|exact res_tmp rfl|exact res_cell rfl rfl rfl) rfl rfl rfl (.inl rfl)
  |exact fq1b (.inr rfl) rfl (by first|exact res_tmp rfl|exact res_cell rfl rfl rfl) rfl rfl rfl (.inr ⟨_,_,rfl,by decide⟩)
  |exact W1.same _
  |exact W1.no _ _
  |exact W1.any _ rfl
  |exact sub3_nil
  |(refine sub3_cons rfl ?_ ?_)
  |(simp only [lit_list,wrapK_i64,wrapK_i32,wrapK_u8,wrap64_u8,Int.reduceToNat,Int.toNat_natCast])
  |(simp only [List.map_append,List.map_cons,List.map_nil,Int.zero_sub,wrapK_u8,wrap64_u8,L25_eq,L32_eq,c25_eq,c32_eq]; first|exact W1.same _|exact W1.no _ _|exact W1.any _ rfl)
  |(simp only [List.length_append,List.length_map,List.length_cons,List.length_nil]; rfl)
  |(simp (disch:=assumption) only [if_pos,if_neg] at H)
  |(simp only [Option.bind_some] at H)
  |(simp only [beq_dec,bne_dec,decide_eq_true_eq] at H)
  |(have hh:=ite_none_ H; clear H; obtain ⟨hc,H⟩:=hh)
  |(have hh:=ite_none2_ H; clear H; obtain ⟨hc,H⟩:=hh)
  |(refine (ite_some_ H).elim (fun hh=>?_) (fun hh=>?_)<;>clear H<;>obtain ⟨hc,H⟩:=hh<;>first|(cases H; done)|(cases hc; done)|(exact absurd rfl hc)|(subst hc; done)|rw [decide_eq_true hc]|rw [decide_eq_false hc]|rw [@decide_eq_true _ (_) hc]|rw [@decide_eq_false _ (_) hc]|subst hc|(obtain rfl:=Bool.eq_false_iff.2 hc)|rw [hc]|rw [Bool.eq_false_iff.2 hc])
  |(simp only [bne_dec,beq_dec])
theorem impl_from_fn:impl_from_P:=grp_impl_from.1
theorem impl_isDigit_fn:impl_isDigit_P:=grp_impl_from.2.1
theorem impl_NameOk_fn:impl_NameOk_P:=grp_impl_from.2.2.1 impl_from_fn impl_isDigit_fn
theorem impl_MetricOk_fn:impl_MetricOk_P:=grp_impl_from.2.2.2.1 impl_from_fn impl_NameOk_fn
theorem impl_isMany_fn:impl_isMany_P:=grp_impl_from.2.2.2.2.1 impl_from_fn
theorem impl_PaceOk_fn:impl_PaceOk_P:=grp_impl_from.2.2.2.2.2.1 impl_from_fn impl_isMany_fn
theorem impl_isLetter_fn:impl_isLetter_P:=grp_impl_from.2.2.2.2.2.2.1
theorem impl_PlainOk_fn:impl_PlainOk_P:=grp_impl_from.2.2.2.2.2.2.2.1 impl_from_fn impl_isDigit_fn impl_isLetter_fn
theorem impl_TextOk_fn:impl_TextOk_P:=grp_impl_from.2.2.2.2.2.2.2.2.1 impl_from_fn
theorem stringslite_HasPrefix_fn:stringslite_HasPrefix_P:=grp_impl_from.2.2.2.2.2.2.2.2.2.1
theorem strings_HasPrefix_fn:strings_HasPrefix_P:=grp_impl_from.2.2.2.2.2.2.2.2.2.2.1 stringslite_HasPrefix_fn
theorem impl_notesOk_fn:impl_notesOk_P:=grp_impl_from.2.2.2.2.2.2.2.2.2.2.2.1 impl_PlainOk_fn impl_TextOk_fn strings_HasPrefix_fn
theorem impl_OrderOk_fn:impl_OrderOk_P:=grp_impl_from.2.2.2.2.2.2.2.2.2.2.2.2 impl_from_fn impl_NameOk_fn impl_MetricOk_fn impl_PaceOk_fn impl_notesOk_fn
end Go.Proofs.YtdlhidjphaaklaaGreat.V
end
