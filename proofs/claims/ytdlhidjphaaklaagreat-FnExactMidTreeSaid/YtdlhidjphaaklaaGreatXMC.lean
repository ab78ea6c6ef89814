/- Part 3 of the proof of the law FnExactMidTree: what it leans on, in build order. No condition. (Merged by wip/reap.py.) -/
import Derived.Test.YtdlhidjphaaklaaGreatXMB
import Derived.Shelf.Strings.Builder1
import Derived.Shelf.Strings.Builder2
import Derived.Shelf.Strings.OnBuilder
import Derived.Shelf.Small.Bits
import Derived.Shelf.Small.Strs
import Derived.Shelf.Strings.BuilderF
import Derived.Shelf.Strings.BuilderK
import Derived.Shelf.Strings.Builder2Cap
import Derived.Shelf.Strconv.Itoa0
import Derived.Shelf.Strings.Search1
import Derived.Shelf.Sort.Plain
import Derived.Shelf.Strings.Prefix
import Derived.Shelf.Strings.BuilderCap
import Derived.Shelf.Slices.Turned
import Derived.Ground.Names2Prog
import Derived.Shelf.Slices.ReverseS
import Derived.Shelf.Slices.Clone
import Derived.Shelf.Slices.Cells
import Derived.Shelf.Slices.In.SortNone
import Derived.Ground.SlgnProg
import Derived.Shelf.SlicesE.Clone
import Derived.Test.YtdlhidjphaaklaaGreatProg
import Derived.Lib.SlicesS
import Derived.Deep.RegionHeld3
import Derived.Maps.AppendAt
import Derived.Lib.AppendZeros
import Derived.Laws.NewBlocks
import Derived.Deep.LoopGhost
import Derived.Deep.RegionLaw
import Derived.Shelf.RegionOpenPlain
import Derived.Lib.SliceRun
import Derived.Lib.Overlaps
import Derived.Lib.AppendZerosOnto
import Derived.Laws.IdiomCopy
import Derived.Shelf.Spec.SlicesInsert
import Derived.Laws.Cover1
set_option linter.unusedVariables false
set_option linter.unusedSimpArgs false
section
namespace Go.Proofs.YtdlhidjphaaklaaGreat.H
open Go.RowKit Go.Proofs.YtdlhidjphaaklaaGreat.P Go.Proofs.YtdlhidjphaaklaaGreatW.PrintWords Go.Proofs.YtdlhidjphaaklaaGreat.M
theorem markText_loop : ∀ (d n : Nat) (out : ByteArray), n < 10 ^ d → n ≤ 4611686018427387904 → out.size + d + 1 ≤ 9223372036854775807 → ∃ k s, laws_markText.l0 k (n : Int) out = some s
  | 0,n,out,hn,_,hs=>by
    have:n=0:=by simpa using hn
    subst this
    exact ⟨1,_,by simp only [laws_markText.l0]; rw [if_neg (by omega),if_pos (by omega)]⟩
  | d + 1,n,out,hn,hm,hs=>by
    by_cases h:n=0
    · subst h
      exact ⟨1,_,by simp only [laws_markText.l0]; rw [if_neg (by omega),if_pos (by omega)]⟩
    · have h10 : n / 10 < 10 ^ d := by rw [Nat.div_lt_iff_lt_mul (by omega)]; rw [Nat.pow_succ] at hn; exact hn
      have hsz:(strOfNums ([(wrap64 (48 + (Int.tmod (n:Int) 10))) % 256]:List Int)).size=1:=rfl
      obtain ⟨k,s,hk⟩:=markText_loop d (n / 10) (strOfNums ([(wrap64 (48 + (Int.tmod (n:Int) 10))) % 256]:List Int) ++ out) h10 (by omega) (by rw [ByteArray.size_append',hsz]; omega)
      refine ⟨k + 1,s,?_⟩
      have ht:wrap64 (Int.tdiv (n:Int) 10)=((n / 10:Nat):Int):=by
        rw [show Int.tdiv (n:Int) 10=((n / 10:Nat):Int) from by rw [show (10:Int)=((10:Nat):Int) from rfl,← Int.ofNat_tdiv],w64 (by omega) (by omega)]
      simp only [laws_markText.l0]
      rw [if_pos (by omega),Option.bind_some,if_pos (by rw [hsz]; omega),ht]
      exact hk
theorem markText_ex (n:Int) (h:n≤4611686018427387904):∃ s,∃ k,laws_markText.f k n=some s:=by
  unfold laws_markText.f
  by_cases h0:n≤0
  · exact ⟨_,0,by rw [if_pos h0]⟩
  · obtain ⟨m, rfl⟩ : ∃ m : Nat, n = m := ⟨n.toNat, by omega⟩
    obtain ⟨k,s,hk⟩:=markText_loop 19 m ⟨#[]⟩ (by omega) (by omega) (by show 0 + 19 + 1≤_; omega)
    exact ⟨s,k,by rw [if_neg h0]; exact hk⟩
noncomputable def mt (n:Int):ByteArray:=@dite _ (∃ s,∃ k,laws_markText.f k n=some s) (Classical.propDecidable _) (fun h=>h.choose) (fun _=>⟨#[]⟩)
theorem mt_is {n:Int} (h:n≤4611686018427387904):∃ k,laws_markText.f k n=some (mt n):=by
  have e:=markText_ex n h
  unfold mt
  rw [dif_pos e]
  exact e.choose_spec
theorem mt_calls (n:Int) (h:n≤4611686018427387904) (w:World):Calls Tryz.prog 50 #[.int .i64 n] w fun e w'=>e=.returned (.string (mt n))∧Below w.heap.size w w':=by
  obtain ⟨k,hk⟩:=mt_is h
  exact laws_markText.calls k n _ w hk
noncomputable def mkS (n:Nat) (k:Int):List ByteArray:=(List.range n).map fun i=>mt (k + (i:Nat))
theorem mkS_len (n:Nat) (k:Int):(mkS n k).length=n:=by simp [mkS]
theorem mkS_succ (n:Nat) (k:Int):mkS (n + 1) k=mkS n k ++ [mt (k + n)]:=by simp [mkS,List.range_succ]
theorem own_set {w:World} {b e s n g cap:Nat} {xs:List Value} (h:w.ownsRow b e s (.slice (some ⟨g,0,none⟩) n cap) n xs) (j:Nat) (u:Value) (hj:j<xs.length) :
    (w.setCell ⟨g,j,none⟩ u).ownsRow b e s (.slice (some ⟨g,0,none⟩) n cap) n (xs.set j u):=by
  obtain ⟨hl,h2⟩:=h
  rcases h2 with ⟨h0,_⟩ | ⟨g',cap',cur,hv,hb,hg,hc,hm,hsz,ht⟩
  · cases h0
  · injection hv with h1 h2 h3
    injection h1 with h1
    injection h1 with h1
    subst h1; subst h3
    refine ⟨by rw [List.length_set,hl],.inr ⟨g,cap,cur.setIfInBounds j u,rfl,hb,?_,hc,hm,by rw [Array.size_setIfInBounds,hsz],?_⟩⟩
    · simp only [World.setCell, Array.getElem?_modify, if_true, hg, Option.map_some]
      rfl
    · rw [Array.toList_setIfInBounds,List.take_set,ht]
theorem own_cell {w:World} {b e s n g cap:Nat} {xs:List Value} (h:w.ownsRow b e s (.slice (some ⟨g,0,none⟩) n cap) n xs) {j:Nat} {u:Value} (hj:xs[j]?=some u):w.cell? ⟨g,j,none⟩=some u:=by
  have:=h.cells (g:=g) rfl j u hj
  rw [Addr.add_lit,Nat.zero_add] at this
  exact this
theorem own_free {w:World} {b e s n g cap:Nat} {xs:List Value} (h:w.ownsRow b e s (.slice (some ⟨g,0,none⟩) n cap) n xs) (j:Nat):w.frozen? ⟨g,j,none⟩=false:=by
  obtain ⟨hl,h2⟩:=h
  rcases h2 with ⟨h0,_⟩ | ⟨g',cap',cur,hv,hb,hg,_⟩
  · cases h0
  · injection hv with h1 h2 h3
    injection h1 with h1
    injection h1 with h1
    subst h1
    simp [World.frozen?,hg]
theorem mark_step (i:Nat) (k:Int) (xs:List ByteArray) (hi:i<xs.length):((mkS i k ++ xs.drop i).map Value.string).set i (.string (mt (k + (i:Int))))=(mkS (i + 1) k ++ xs.drop (i + 1)).map Value.string:=by
  rw [mkS_succ,List.drop_eq_getElem_cons hi]
  rw [List.map_append,List.set_append_right _ _ (by rw [List.length_map,mkS_len]; exact Nat.le_refl _)]
  rw [List.length_map,mkS_len,Nat.sub_self]
  simp only [List.map_cons,List.set_cons_zero,List.map_append,List.append_assoc,List.map_nil,List.singleton_append,List.cons_append,List.nil_append]
theorem own_below {w w1:World} {b e s n:Nat} {v:Value} {xs:List Value} (h:w.ownsRow b e s v n xs) (hb:Below w.heap.size w w1):w1.ownsRow b e s v n xs:=own_chg h (Chg.of_same (S:=fun _=>False) hb) (fun _ _ e=>e)
theorem own_at {w:World} {b e s n g cap:Nat} {xs:List Value} (h:w.ownsRow b e s (.slice (some ⟨g,0,none⟩) n cap) n xs) (j:Nat) (hj:j<xs.length):∃ u,w.cell? ⟨g,j,none⟩=some u∧w.frozen? ⟨g,j,none⟩=false :=
  ⟨_,own_cell h (List.getElem?_eq_getElem hj),own_free h j⟩
set_option maxHeartbeats 4000000 in
set_option maxRecDepth 100000 in
theorem markS_calls (xs:List ByteArray) (v:Value) (k0:Int) (w:World) (h:SRow w v xs) (h0:0≤k0) (hb:k0 + xs.length≤4611686018427387904) :
    Calls Tryz.prog 48 #[v,.int .i64 k0] w fun e w'=>e=.returned (.int .i64 (k0 + xs.length))∧SRow w' v (mkS xs.length k0)∧Chg (fun k=>v.ownBlock=some k) w w':=by
  have h':=h
  obtain ⟨hl,h2⟩:=h
  rcases h2 with ⟨rfl,hn⟩ | ⟨g,cap,cur,rfl,_,hg,hc,hm,hsz,ht⟩
  · have hx : xs = [] := List.eq_nil_of_length_eq_zero hn
    subst hx
    clear hl hn h'
    go_enter Tryz.func48,Tryz.ntmps48
    go_wp2
    go_loopg [1,5] 1 (fun kq v1 v5 w'=>v1=.int .i64 k0∧v5=.int .i64 0∧w'=w)
    case atStart=>exact ⟨rfl,rfl,rfl⟩
    case round =>
      obtain ⟨rfl,rfl,rfl⟩:=hrel
      go_wp2
      go_ret
      exact ⟨by simp,World.ownsRow_nil _ _ _ _,Chg.refl _ _⟩
  · have hm2 : xs.length ≤ 9223372036854775807 := by unfold maxLen at hm; omega
    have HO:=Lib.hid h'
    clear hl hg hc hm hsz ht h' cur
    go_enter Tryz.func48,Tryz.ntmps48
    go_wp2
    go_loopg [1,5] (xs.length + 1) (fun kq v1 v5 w'=>∃ i:Nat,v1=.int .i64 (k0 + i)∧v5=.int .i64 i∧i≤xs.length∧kq + i=xs.length + 1∧Aside0 (w'.ownsRow 0 9 1 (.slice (some ⟨g,0,none⟩) xs.length cap) xs.length ((mkS i k0 ++ xs.drop i).map Value.string))∧Aside0 (Chg (fun k=>(Value.slice (some ⟨g,0,none⟩) xs.length cap).ownBlock=some k) w w'))
    case atStart=>exact ⟨0,by simp,rfl,Nat.zero_le _,by omega,⟨HO.out⟩,⟨Chg.refl _ _⟩⟩
    case round =>
      obtain ⟨i,rfl,rfl,hi,hq,HR,HC⟩:=hrel
      obtain ⟨k1,rfl⟩:∃ k1,gk=k1 + 1:=⟨gk - 1,by omega⟩
      by_cases hlt:i<xs.length
      · have hltb : decide (i < xs.length) = true := decide_eq_true hlt
        have hbi:k0 + (i:Int)≤4611686018427387904:=by omega
        have h0i:0≤k0 + (i:Int):=by omega
        go_wp2_with (go_at_call 50; refine (mt_calls _ (by omega) _).mono ?_; rintro e w1 ⟨rfl,hb1⟩; have HB1:=Lib.hid hb1; clear hb1; have HR1:=Lib.hid (own_below HR.out HB1.out); obtain ⟨u,hcell,hfz⟩:=own_at HR1.out i (by rw [List.length_map,List.length_append,mkS_len,List.length_drop]; omega))
        have HX:=Lib.hid (own_set HR1.out i (.string (mt (k0 + (i:Int)))) (by rw [List.length_map,List.length_append,mkS_len,List.length_drop]; omega))
        go_roundg k1
        case rel=>exact ⟨i + 1,by go_num,by go_num,by omega,by omega,⟨by rw [← mark_step i k0 xs hlt]; exact HX.out⟩,⟨(HC.out.trans (Chg.of_same HB1.out)).trans (Chg.set _ _ _ rfl)⟩⟩
        case measure=>omega
      · go_wp2
        go_ret
        obtain rfl:i=xs.length:=by omega
        have HR2:=HR.out
        rw [List.drop_of_length_le (Nat.le_refl _),List.append_nil] at HR2
        exact ⟨rfl,by unfold SRow; rw [mkS_len]; exact HR2,HC.out⟩
def MkT : S32 → Int → Prop
  | ⟨a,b,s,ks,kids⟩,k=>a=k∧b=k + 1∧s=mt (k + 2)∧ks=mkS ks.length (k + 3)∧∀ i (h:i<kids.length),MkT kids[i] (k + 3 + (ks.length:Nat) + (((kids.take i).map cntK).sum:Nat))
termination_by x=>SizeOf.sizeOf x
decreasing_by
  have:=List.sizeOf_lt_of_mem (List.getElem_mem h)
  simp only [S32.mk.sizeOf_spec]
  omega
def MkL (kids:List S32) (k:Int):Prop:=∀ i (h:i<kids.length),MkT kids[i] (k + (((kids.take i).map cntK).sum:Nat))
theorem MkT_iff (x:S32) (k:Int):MkT x k ↔ x.f0=k∧x.f1=k + 1∧x.f2=mt (k + 2)∧x.f3=mkS x.f3.length (k + 3)∧MkL x.f4 (k + 3 + (x.f3.length:Nat)):=by
  obtain ⟨a,b,s,ks,kids⟩:=x
  rw [MkT]
  rfl
theorem cnt_mem {kids:List S32} {i:Nat} (h:i<kids.length):((kids.take i).map cntK).sum + cntK kids[i]≤(kids.map cntK).sum:=by
  have e:kids=kids.take i ++ kids[i] :: kids.drop (i + 1):=by rw [← List.drop_eq_getElem_cons h,List.take_append_drop]
  conv=>rhs; rw [e]
  rw [List.map_append,List.sum_append,List.map_cons,List.sum_cons]
  omega
theorem cnt_take_succ {kids:List S32} {i:Nat} (h:i<kids.length):((kids.take (i + 1)).map cntK).sum=((kids.take i).map cntK).sum + cntK kids[i]:=by
  rw [List.take_succ_eq_append_getElem h,List.map_append,List.sum_append]
  simp
theorem row_cells {inner:List Value} {n i:Nat} {c:List Value} (hl:inner.length=n*5) (hi:i<n) (hc:(inner.drop (i*5)).take 5=c) (j:Nat) (hj:j<5):inner[i*5 + j]?=c[j]?:=by
  rw [← hc,List.getElem?_take,if_pos hj,List.getElem?_drop]
theorem row_set_same {inner:List Value} {n i:Nat} (hl:inner.length=n*5) (hi:i<n) (u0 u1 u2:Value) {a b s v3 v4:Value} (hc:(inner.drop (i*5)).take 5=[a,b,s,v3,v4]) :
    ((((inner.set (i*5) u0).set (i*5 + 1) u1).set (i*5 + 2) u2).drop (i*5)).take 5=[u0,u1,u2,v3,v4]:=by
  have h5:i*5 + 5≤n*5:=by rw [← Nat.succ_mul]; exact Nat.mul_le_mul_right _ (by omega)
  apply List.ext_getElem?
  intro j
  rw [List.getElem?_take]
  by_cases hj:j<5
  · rw [if_pos hj, List.getElem?_drop, List.getElem?_set, List.getElem?_set, List.getElem?_set, row_cells hl hi hc j hj]
    simp only [List.length_set]
    rcases j with _ | _ | _ | _ | _ | j
    · rw [if_neg (by omega),if_neg (by omega),if_pos (by omega),if_pos (by omega)]; rfl
    · rw [if_neg (by omega),if_pos (by omega),if_pos (by omega)]; rfl
    · rw [if_pos (by omega),if_pos (by omega)]; rfl
    · rw [if_neg (by omega),if_neg (by omega),if_neg (by omega)]; rfl
    · rw [if_neg (by omega),if_neg (by omega),if_neg (by omega)]; rfl
    · omega
  · rw [if_neg hj]
    symm
    exact List.getElem?_eq_none (by simp; omega)
theorem row_set_other {inner:List Value} {i j:Nat} (hne:i ≠ j) (u0 u1 u2:Value):((((inner.set (i*5) u0).set (i*5 + 1) u1).set (i*5 + 2) u2).drop (j*5)).take 5=(inner.drop (j*5)).take 5:=by
  apply List.ext_getElem?
  intro k
  rw [List.getElem?_take,List.getElem?_take]
  by_cases hk:k<5
  · rw [if_pos hk,if_pos hk,List.getElem?_drop,List.getElem?_drop,List.getElem?_set_ne (by omega),List.getElem?_set_ne (by omega),List.getElem?_set_ne (by omega)]
  · rw [if_neg hk,if_neg hk]
theorem set2_cell {inner:List Value} {n i:Nat} {c:List Value} (hl:inner.length=n*5) (hi:i<n) (hc:(inner.drop (i*5)).take 5=c) (u0 u1:Value) (j:Nat) (h2:2≤j) (hj:j<5) {v:Value} (hv:c[j]?=some v):((inner.set (i*5) u0).set (i*5 + 1) u1)[i*5 + j]?=some v:=by
  rw [List.getElem?_set_ne (by omega),List.getElem?_set_ne (by omega),row_cells hl hi hc j hj,hv]
theorem set3_cell {inner:List Value} {n i:Nat} {c:List Value} (hl:inner.length=n*5) (hi:i<n) (hc:(inner.drop (i*5)).take 5=c) (u0 u1 u2:Value) (j:Nat) (h2:3≤j) (hj:j<5) {v:Value} (hv:c[j]?=some v):(((inner.set (i*5) u0).set (i*5 + 1) u1).set (i*5 + 2) u2)[i*5 + j]?=some v:=by
  rw [List.getElem?_set_ne (by omega),set2_cell hl hi hc u0 u1 j (by omega) hj hv]
theorem mark_close {g cap i : Nat} {kids kd : List S32} {inr : List Value} {fss gss : List (List Nat)} {k0 kx : Int} {wr w4 : World} {v3 v4 : Value} {kids' : List S32} (hi : i < kids.length) (hfl : fss.length = kids.length)
    (hnd:((Value.slice (some ⟨g,0,none⟩) kids.length cap).ownBlock.toList ++ fss.flatten).Nodup) (hkx:kx=k0 + (((kids.take i).map cntK).sum:Nat))
    (HM:kd.map cntK=kids.map cntK) (HK:∀ j (hj:j<kd.length),j<i→MkT kd[j] (k0 + (((kids.take j).map cntK).sum:Nat))) (HE:∀ j,i≤j→kd[j]?=kids[j]?)
    (HRl:inr.length=kids.length*5) (ecs:(inr.drop (i*5)).take 5=[.int .i64 kids[i].f0,.int .i64 kids[i].f1,.string kids[i].f2,v3,v4])
    (HT:∀ j (hj:j<kd.length) f,fss[j]?=some f→OT wr kd[j] ((inr.drop (j*5)).take 5) f)
    (hf:fss[i]?=some (v3.ownBlock.toList ++ (v4.ownBlock.toList ++ gss.flatten)))
    (HC:Chg (fun k=>k=g ∨ k ∈ v3.ownBlock.toList ++ (v4.ownBlock.toList ++ gss.flatten)) wr w4)
    (HR:w4.ownsRow 0 32 5 (.slice (some ⟨g,0,none⟩) kids.length cap) kids.length (((inr.set (i*5) (.int .i64 kx)).set (i*5 + 1) (.int .i64 (kx + 1))).set (i*5 + 2) (.string (mt (kx + 2)))))
    (hS:SRow w4 v3 (mkS kids[i].f3.length (kx + 3))) (hO:ORow w4 v4 kids' gss) (hcn:kids'.map cntK=kids[i].f4.map cntK) (hmk:MkL kids' (kx + 3 + (kids[i].f3.length:Nat))) :
    ∃ (kd2 : List S32) (inr2 : List Value), kd2.map cntK = kids.map cntK ∧ (∀ j (hj : j < kd2.length), j < i + 1 → MkT kd2[j] (k0 + (((kids.take j).map cntK).sum : Nat))) ∧ (∀ j, i + 1 ≤ j → kd2[j]? = kids[j]?) ∧
      w4.ownsRow 0 32 5 (.slice (some ⟨g,0,none⟩) kids.length cap) kids.length inr2∧(∀ j (hj:j<kd2.length) f,fss[j]?=some f→OT w4 kd2[j] ((inr2.drop (j*5)).take 5) f):=by
  have hkl:kd.length=kids.length:=by have:=congrArg List.length HM; simpa using this
  have hnd2:=List.nodup_append.1 hnd
  have hx:MkT ⟨kx,kx + 1,mt (kx + 2),mkS kids[i].f3.length (kx + 3),kids'⟩ kx:=by
    rw [MkT_iff]
    refine ⟨rfl,rfl,rfl,by simp only [mkS_len],?_⟩
    simp only [mkS_len]
    exact hmk
  have hcx:cntK ⟨kx,kx + 1,mt (kx + 2),mkS kids[i].f3.length (kx + 3),kids'⟩=cntK kids[i]:=by
    rw [cntK_eq,cntK_eq]
    simp only [mkS_len,hcn]
  refine ⟨kd.set i ⟨kx,kx + 1,mt (kx + 2),mkS kids[i].f3.length (kx + 3),kids'⟩,_,?_,fun j hj hji=>?_,fun j hj=>?_,HR,fun j hj f hfj=>?_⟩
  · rw [List.map_set, hcx, HM]
    apply List.ext_getElem?
    intro j
    rw [List.getElem?_set]
    by_cases e:i=j
    · subst e
      rw [if_pos rfl,if_pos (by rw [List.length_map]; exact hi),List.getElem?_map,List.getElem?_eq_getElem hi]
      rfl
    · rw [if_neg e]
  · by_cases e : i = j
    · subst e
      rw [List.getElem_set_self,← hkx]
      exact hx
    · rw [List.getElem_set_ne e]
      exact HK j (by simpa using hj) (by omega)
  · rw [List.getElem?_set_ne (by omega)]
    exact HE j (by omega)
  · by_cases e : i = j
    · subst e
      rw [List.getElem_set_self]
      rw [hf] at hfj
      obtain rfl:=Option.some.inj hfj
      rw [row_set_same HRl hi _ _ _ ecs,OT_iff]
      exact ⟨v3,v4,gss,rfl,hS,hO,rfl⟩
    · rw [List.getElem_set_ne e, row_set_other e]
      refine OT_chg HC _ _ _ (HT j (by simpa using hj) f hfj) (fun k hk hS2=>?_)
      rcases hS2 with rfl | hk2
      · exact hnd2.2.2 k (by simp [Value.ownBlock]) k (mem_flat hfj hk) rfl
      · exact nd_flat2 hnd2.2.1 hf hfj e k hk2 hk
set_option maxHeartbeats 8000000 in
set_option maxRecDepth 100000 in
theorem markN_calls : ∀ (N : Nat) (kids : List S32) (v : Value) (fss : List (List Nat)) (k0 : Int) (w : World), (kids.map cntK).sum ≤ N → ORow w v kids fss → (v.ownBlock.toList ++ fss.flatten).Nodup → 0 ≤ k0 → k0 + ((kids.map cntK).sum : Nat) ≤ 4611686018427387904 →
    Calls Tryz.prog 49 #[v,.int .i64 k0] w fun e w'=>∃ kids':List S32,e=.returned (.int .i64 (k0 + ((kids.map cntK).sum:Nat)))∧kids'.map cntK=kids.map cntK∧MkL kids' k0∧ORow w' v kids' fss∧Chg (fun k=>v.ownBlock=some k ∨ k ∈ fss.flatten) w w':=by
  intro N
  induction N using Nat.strongRecOn with
  | _ N ih =>
  intro kids v fss k0 w hN h hnd h0 hb
  have hu:=Tryz.underlying32
  obtain ⟨inner,h1,h2,h3⟩:=h
  have h1':=h1
  obtain ⟨hl,hv⟩:=h1
  rcases hv with ⟨rfl,hn⟩ | ⟨g,cap,cur,rfl,_,hg,hc,hm,hsz,ht⟩
  · have hx : kids = [] := List.eq_nil_of_length_eq_zero hn
    subst hx
    clear hl hn h1' h3
    go_enter Tryz.func49,Tryz.ntmps49
    go_wp2
    go_loopg [1,5] 1 (fun kq v1 v5 w'=>v1=.int .i64 k0∧v5=.int .i64 0∧w'=w)
    case atStart=>exact ⟨rfl,rfl,rfl⟩
    case round =>
      obtain ⟨rfl,rfl,rfl⟩:=hrel
      go_wp2
      go_ret
      exact ⟨[],by simp,rfl,fun i hi=>absurd hi (Nat.not_lt_zero _),⟨[],World.ownsRow_nil _ _ _ _,h2,fun i hi=>absurd hi (Nat.not_lt_zero _)⟩,Chg.refl _ _⟩
  · have hm2 : kids.length ≤ 9223372036854775807 := by unfold maxLen at hm; omega
    have HO:=Lib.hid h1'
    have H2:=Lib.hid h2
    have H3:=Lib.hid h3
    have HN:=Lib.hid hnd
    have IH:=Lib.hid ih
    clear hl hg hc hm hsz ht h1' cur h2 h3 hnd ih
    have HS0:Aside0 (Chg (fun k=>(Value.slice (some ⟨g,0,none⟩) kids.length cap).ownBlock=some k ∨ k ∈ fss.flatten) w w):=⟨Chg.refl _ _⟩
    go_enter Tryz.func49,Tryz.ntmps49
    go_wp2
    go_loopg [1, 5] (kids.length + 1) (fun kq v1 v5 w' => ∃ (i : Nat) (kd : List S32) (inr : List Value), v1 = .int .i64 (k0 + (((kids.take i).map cntK).sum : Nat)) ∧ v5 = .int .i64 i ∧ i ≤ kids.length ∧ kq + i = kids.length + 1 ∧ Aside0 (kd.map cntK = kids.map cntK) ∧ Aside0 (∀ j (hj : j < kd.length), j < i → MkT kd[j] (k0 + (((kids.take j).map cntK).sum : Nat))) ∧ Aside0 (∀ j, i ≤ j → kd[j]? = kids[j]?) ∧
      Aside0 (w'.ownsRow 0 32 5 (.slice (some ⟨g,0,none⟩) kids.length cap) kids.length inr)∧Aside0 (∀ j (hj:j<kd.length) f,fss[j]?=some f→OT w' kd[j] ((inr.drop (j*5)).take 5) f)∧Aside0 (Chg (fun k=>(Value.slice (some ⟨g,0,none⟩) kids.length cap).ownBlock=some k ∨ k ∈ fss.flatten) w w'))
    case atStart=>exact ⟨0,kids,inner,by simp,rfl,Nat.zero_le _,by omega,⟨rfl⟩,⟨fun j _ hj=>absurd hj (Nat.not_lt_zero _)⟩,⟨fun _ _=>rfl⟩,⟨HO.out⟩,⟨H3.out⟩,HS0⟩
    case round =>
      obtain ⟨i,kd,inr,rfl,rfl,hi,hq,HM,HK,HE,HR,HT,HC⟩:=hrel
      obtain ⟨k1,rfl⟩:∃ k1,gk=k1 + 1:=⟨gk - 1,by omega⟩
      by_cases hlt:i<kids.length
      · skip
        have hltb:decide (i<kids.length)=true:=decide_eq_true hlt
        have hkl:kd.length=kids.length:=by have:=congrArg List.length HM.out; simpa using this
        have hik:i<kd.length:=by omega
        have hif:i<fss.length:=by rw [H2.out]; exact hlt
        have hcm:=cnt_mem hlt
        have hts:=cnt_take_succ hlt
        obtain ⟨kx,hkx⟩:∃ kx:Int,kx=k0 + (((kids.take i).map cntK).sum:Nat):=⟨_,rfl⟩
        have hkx0:0≤kx:=by omega
        have hcx:=cntK_eq kids[i]
        have hkx1:kx + (cntK kids[i]:Nat)≤4611686018427387904:=by omega
        have hkx2:kx + 3≤4611686018427387904:=by omega
        have hkx3:kx + 2≤4611686018427387904:=by omega
        have hkx4:kx + 3 + (kids[i].f3.length:Nat)≤4611686018427387904:=by omega
        have hkx5:kx + 3 + (kids[i].f3.length:Nat) + ((kids[i].f4.map cntK).sum:Nat)≤4611686018427387904:=by omega
        have hlt4:(kids[i].f4.map cntK).sum<N:=by omega
        have hnext:kx + 3 + (kids[i].f3.length:Nat) + ((kids[i].f4.map cntK).sum:Nat)=k0 + (((kids.take (i + 1)).map cntK).sum:Nat):=by omega
        have hfi:fss[i]?=some fss[i]:=List.getElem?_eq_getElem hif
        have hki:kd[i]=kids[i]:=by
          have:=HE.out i (Nat.le_refl _)
          rw [List.getElem?_eq_getElem hik,List.getElem?_eq_getElem hlt] at this
          exact Option.some.inj this
        have hO:=HT.out i hik fss[i] hfi
        rw [OT_iff,hki] at hO
        obtain ⟨v3,v4,gss,ecs,hS3,hR4,efp⟩:=hO
        rw [efp] at hfi
        have hnf:=nd_flat (List.nodup_append.1 HN.out).2.1 hfi
        have hgf:∀ k ∈ v3.ownBlock.toList ++ (v4.ownBlock.toList ++ gss.flatten),k ≠ g:=fun k hk e=>(List.nodup_append.1 HN.out).2.2 g (by simp [Value.ownBlock]) k (mem_flat hfi hk) e.symm
        have hn4:=(List.nodup_append.1 hnf).2.1
        have hn34:=(List.nodup_append.1 hnf).2.2
        obtain ⟨A3,c3,e3,l3,g3⟩:=SRow_C hS3
        obtain ⟨A4,c4,e4,l4,g4⟩:=ORow_C hR4
        subst e3
        subst e4
        have hrl:=HR.out.1
        have y0:=own_cell HR.out (j:=i*5) ((row_cells hrl hlt ecs 0 (by omega)).trans rfl)
        have y1:=own_cell HR.out ((row_cells hrl hlt ecs 1 (by omega)).trans rfl)
        have z0:=own_free HR.out (i*5)
        have z1:=own_free HR.out (i*5 + 1)
        have hi5:i*5 + 5≤inr.length:=by rw [hrl,← Nat.succ_mul]; exact Nat.mul_le_mul_right _ (by omega)
        rw [← hkx]
        have HKX:=Lib.hid hkx
        have HHS3:=Lib.hid hS3
        have HHR4:=Lib.hid hR4
        have HEC:=Lib.hid ecs
        have HFI:=Lib.hid hfi
        have HGF:=Lib.hid hgf
        have HN4:=Lib.hid hn4
        have HN34:=Lib.hid hn34
        have HNX:=Lib.hid hnext
        have HRL:=Lib.hid hrl
        have HI5:=Lib.hid hi5
        clear hkx hb hcm hts hcx hS3 hR4 ecs hfi hgf hnf hn4 hn34 hnext hrl efp hki g3 g4 l3 l4 hi5 hkl
        have HNE3:Hid (∀ k,(Value.slice A3 kids[i].f3.length c3).ownBlock=some k→¬ k=g):=fun k hk=>HGF.out k (by simp [hk])
        have HNE4:Hid (∀ k,(Value.slice A4 kids[i].f4.length c4).ownBlock=some k→¬ k=g):=fun k hk=>HGF.out k (by simp [hk])
        have HNEf:Hid (∀ k ∈ gss.flatten,¬ k=g):=fun k hk=>HGF.out k (by simp only [List.mem_append]; exact .inr (.inr hk))
        go_wp2_with (first
          | (go_at_call 50; refine (mt_calls _ (by omega) _).mono ?_; rintro e w1 ⟨rfl,hb1⟩; have HB1:=Lib.hid hb1; clear hb1; have HR1:=Lib.hid (own_below (own_set (own_set HR.out (i*5) (.int .i64 kx) (by have:=HI5.out; omega)) (i*5 + 1) (.int .i64 (kx + 1)) (by have:=HI5.out; rw [List.length_set]; omega)) HB1.out); obtain ⟨u2,hc2,hf2⟩:=own_at HR1.out (i*5 + 2) (by have:=HI5.out; rw [List.length_set,List.length_set]; omega); have y3:=own_cell HR1.out (set2_cell HRL.out hlt HEC.out _ _ 3 (by omega) (by omega) rfl); have HC1:=Lib.hid (((Chg.set (S:=fun k=>k=g) wr ⟨g,i*5,none⟩ (.int .i64 kx) rfl).trans (Chg.set (S:=fun k=>k=g) _ ⟨g,i*5 + 1,none⟩ (.int .i64 (kx + 1)) rfl)).trans (Chg.of_same HB1.out)))
          | (go_at_call 48; refine (markS_calls kids[i].f3 _ _ _ (own_chg HHS3.out (HC1.out.trans (Chg.set (S:=fun k=>k=g) _ _ _ rfl)) HNE3.out) (by omega) (by omega)).mono ?_; rintro e w3 ⟨rfl,hs3,hc3⟩; have HS3:=Lib.hid hs3; have HC3:=Lib.hid hc3; clear hs3 hc3; have HR3:=Lib.hid (own_chg (own_set HR1.out (i*5 + 2) (.string (mt (kx + 1 + 1))) (by have:=HI5.out; rw [List.length_set,List.length_set]; omega)) HC3.out (fun k hk hk2=>HNE3.out k hk2 (by simp [Value.ownBlock] at hk; exact hk.symm))); have y4:=own_cell HR3.out (set3_cell HRL.out hlt HEC.out _ _ _ 4 (by omega) (by omega) rfl))
          | (go_at_call 49; have HC13:=Lib.hid (((HC1.out.mono (S':=fun k=>k=g ∨ (Value.slice A3 kids[i].f3.length c3).ownBlock=some k) (fun k _ e=>.inl e)).trans (Chg.set _ ⟨g,i*5 + 2,none⟩ (.string (mt (kx + 1 + 1))) (.inl rfl))).trans (HC3.out.mono (fun k _ e=>.inr e))); refine (IH.out _ hlt4 kids[i].f4 _ gss _ _ (Nat.le_refl _) (ORow_chg HC13.out HHR4.out (fun k hk e=>e.elim (HNE4.out k hk) (fun e2=>HN34.out k (by simp [e2]) k (by simp [hk]) rfl)) (fun k hk e=>e.elim (HNEf.out k hk) (fun e2=>HN34.out k (by simp [e2]) k (by simp only [List.mem_append]; exact .inr hk) rfl))) HN4.out (by omega) (by omega)).mono ?_; rintro e w4 ⟨kids',rfl,hcn,hmk,ho4,hc4⟩; have HCN:=Lib.hid hcn; have HMK:=Lib.hid hmk; have HO4:=Lib.hid ho4; have HC4:=Lib.hid hc4; clear hcn hmk ho4 hc4))
        have HR4:=Lib.hid (own_chg HR3.out HC4.out (fun k hk e=>by
          simp [Value.ownBlock] at hk
          subst hk
          exact e.elim (fun e=>HNE4.out _ e rfl) (fun e=>HNEf.out _ e rfl)))
        have HS4:=Lib.hid (own_chg (w1:=w4) HS3.out HC4.out (fun k hk e=>HN34.out k (by simp [hk]) k (by simp only [List.mem_append,mem_own]; exact e) rfl))
        have HC14:=Lib.hid (((HC13.out.mono (S':=fun k=>k=g ∨ k ∈ (Value.slice A3 kids[i].f3.length c3).ownBlock.toList ++ ((Value.slice A4 kids[i].f4.length c4).ownBlock.toList ++ gss.flatten)) (fun k _ e=>e.elim .inl (fun e=>.inr (by simp [e]))))).trans (HC4.out.mono (fun k _ e=>.inr (by simp only [List.mem_append,mem_own]; exact .inr e))))
        have HCall:=Lib.hid (HC.out.trans (HC14.out.mono (fun k _ e=>e.elim (fun e=>.inl (by simp [Value.ownBlock,e])) (fun e=>.inr (mem_flat HFI.out e)))))
        obtain ⟨kd2,inr2,q1,q2,q3,q4,q5⟩:=mark_close hlt H2.out HN.out HKX.out HM.out HK.out HE.out HRL.out HEC.out HT.out HFI.out HC14.out (by have:=HR4.out; rw [show kx + 1 + 1=kx + 2 by omega] at this; exact this) (by have:=HS4.out; rw [show kx + 1 + 1 + 1=kx + 3 by omega] at this; exact this) HO4.out HCN.out (by have:=HMK.out; rw [show kx + 1 + 1 + 1=kx + 3 by omega] at this; exact this)
        have Q1:=Lib.hid q1
        have Q2:=Lib.hid q2
        have Q3:=Lib.hid q3
        have Q4:=Lib.hid q4
        have Q5:=Lib.hid q5
        clear q1 q2 q3 q4 q5
        go_roundg k1
        case rel=>exact ⟨i + 1,kd2,inr2,by rw [← HNX.out,show kx + 1 + 1 + 1=kx + 3 by omega],by go_num,by omega,by omega,⟨Q1.out⟩,⟨Q2.out⟩,⟨Q3.out⟩,⟨Q4.out⟩,⟨Q5.out⟩,⟨HCall.out⟩⟩
        case measure=>omega
      · go_wp2
        go_ret
        obtain rfl:i=kids.length:=by omega
        have hkl:kd.length=kids.length:=by have:=congrArg List.length HM.out; simpa using this
        refine ⟨kd,by rw [List.take_of_length_le (by simp)]; rfl,HM.out,fun j hj=>?_,⟨inr,by rw [hkl]; exact HR.out,by rw [hkl]; exact H2.out,HT.out⟩,HC.out⟩
        rw [List.map_take,HM.out,← List.map_take]
        exact HK.out j hj (by omega)
theorem chg_cell {S:Nat→Prop} {w w1:World} {a:Addr} {v:Value} (hc:Chg S w w1) (h:w.cell? a=some v) (hs:¬ S a.block):w1.cell? a=some v:=(World.cell?_of_block (hc.block _ (World.block_lt_of_cell? w a h) hs)).trans h
def Top (w:World) (v3 v4:Value) (x:S32) (fss:List (List Nat)):Prop:=SRow w v3 x.f3∧ORow w v4 x.f4 fss∧(v3.ownBlock.toList ++ (v4.ownBlock.toList ++ fss.flatten)).Nodup
def topFp (v3 v4:Value) (fss:List (List Nat)):List Nat:=v3.ownBlock.toList ++ (v4.ownBlock.toList ++ fss.flatten)
theorem Top_chg {S:Nat→Prop} {w w1:World} {v3 v4:Value} {x:S32} {fss:List (List Nat)} (h:Top w v3 v4 x fss) (hc:Chg S w w1) (hs:∀ k ∈ topFp v3 v4 fss,¬ S k):Top w1 v3 v4 x fss :=
  ⟨own_chg h.1 hc (fun k hk=>hs k (by simp [topFp,hk])),ORow_chg hc h.2.1 (fun k hk=>hs k (by simp [topFp,hk])) (fun k hk=>hs k (by simp only [topFp,List.mem_append]; exact .inr (.inr hk))),h.2.2⟩
def MkTop (x:S32) (k:Int):Prop:=x.f3=mkS x.f3.length k∧MkL x.f4 (k + (x.f3.length:Nat))
set_option maxHeartbeats 4000000 in
set_option maxRecDepth 100000 in
theorem mark_calls (x:S32) (v3 v4:Value) (fss:List (List Nat)) (k0:Int) (w:World) (h:Top w v3 v4 x fss) (h0:0≤k0) (hb:k0 + (cntTop x:Nat)≤4611686018427387904) :
    Calls Tryz.prog 14 #[.agg #[.int .i64 x.f0,.int .i64 x.f1,.string x.f2,v3,v4],.int .i64 k0] w fun e w'=>∃ x':S32,e=.returned (.int .i64 (k0 + (cntTop x:Nat)))∧x'.f0=x.f0∧x'.f1=x.f1∧x'.f2=x.f2∧cntTop x'=cntTop x∧MkTop x' k0∧Top w' v3 v4 x' fss∧Chg (fun k=>k ∈ topFp v3 v4 fss ∨ w.heap.size≤k) w w':=by
  have hu:=Tryz.underlying32
  obtain ⟨hs,ho,hn⟩:=h
  obtain ⟨A3,c3,rfl,_,_⟩:=SRow_C hs
  obtain ⟨A4,c4,rfl,_,_⟩:=ORow_C ho
  have HS:=Lib.hid hs
  have HO:=Lib.hid ho
  have HN:=Lib.hid hn
  have HN4:=Lib.hid (List.nodup_append.1 hn).2.1
  have HN34:=Lib.hid (List.nodup_append.1 hn).2.2
  have hb1:k0 + (x.f3.length:Nat)≤4611686018427387904:=by unfold cntTop at hb; omega
  have hb2:k0 + (x.f3.length:Nat) + ((x.f4.map cntK).sum:Nat)≤4611686018427387904:=by unfold cntTop at hb; omega
  have h1:0≤k0 + (x.f3.length:Nat):=by omega
  clear hs ho hn hb
  have HB:=Lib.hid (Chg.of_same (S:=fun k=>(Value.slice A3 x.f3.length c3).ownBlock=some k) (below_alloc (Below.refl w.heap.size w) (.cells #[.int .i64 x.f0,.int .i64 x.f1,.string x.f2,.slice A3 x.f3.length c3,.slice A4 x.f4.length c4] 32)))
  go_enter Tryz.func14,Tryz.ntmps14
  go_wp2_with (first
    | (go_at_call 48; refine (markS_calls x.f3 _ _ _ (own_chg HS.out (Chg.of_same (S:=fun _=>False) (below_alloc (Below.refl _ _) _)) (fun _ _ e=>e)) (by omega) (by omega)).mono ?_; rintro e w1 ⟨rfl,hs1,hc1⟩; have y4:=chg_cell hc1 (a:=⟨w.heap.size,4,none⟩) (v:=.slice A4 x.f4.length c4) (by go_simp) (fun e=>absurd (HS.out.lt _ e).2 (Nat.lt_irrefl _)); have HS1:=Lib.hid hs1; have HC1:=Lib.hid (HB.out.trans hc1); clear hs1 hc1)
    | (go_at_call 49; refine (markN_calls _ x.f4 _ fss _ _ (Nat.le_refl _) (ORow_chg HC1.out HO.out (fun k hk e=>HN34.out k (by simp [e]) k (by simp [hk]) rfl) (fun k hk e=>HN34.out k (by simp [e]) k (by simp only [List.mem_append]; exact .inr hk) rfl)) HN4.out (by omega) (by omega)).mono ?_; rintro e w2 ⟨kids',rfl,hcn,hmk,ho2,hc2⟩; have HCN:=Lib.hid hcn; have HMK:=Lib.hid hmk; have HO2:=Lib.hid ho2; have HC2:=Lib.hid hc2; clear hcn hmk ho2 hc2))
  go_ret
  refine ⟨⟨x.f0,x.f1,x.f2,mkS x.f3.length k0,kids'⟩,?_,rfl,rfl,rfl,?_,⟨?_,?_⟩,⟨?_,?_,HN.out⟩,?_⟩
  · unfold cntTop
    rw [show k0 + ((x.f3.length + (x.f4.map cntK).sum:Nat):Int)=k0 + (x.f3.length:Nat) + ((x.f4.map cntK).sum:Nat) by omega]
    rfl
  · unfold cntTop
    simp only [mkS_len,HCN.out]
  · simp only [mkS_len]
  · simp only [mkS_len]
    exact HMK.out
  · have := own_chg HS1.out HC2.out (fun k hk e => HN34.out k (by simp [hk]) k (by simp only [List.mem_append, mem_own]; exact e) rfl)
    exact this
  · exact HO2.out
  · refine (HC1.out.mono (fun k _ e => .inl (by simp [topFp, e]))).trans (HC2.out.mono (fun k _ e => .inl ?_))
    simp only [topFp,List.mem_append,mem_own]
    exact .inr e
theorem Top_lt {w:World} {v3 v4:Value} {x:S32} {fss:List (List Nat)} (h:Top w v3 v4 x fss):∀ k ∈ topFp v3 v4 fss,k<w.heap.size:=fun k hk =>
  OT_lt x _ (topFp v3 v4 fss) ((OT_iff _ _ _ _).2 ⟨v3,v4,fss,rfl,h.1,h.2.1,rfl⟩) k hk
theorem Top_below {w w1:World} {v3 v4:Value} {x:S32} {fss:List (List Nat)} (h:Top w v3 v4 x fss) (hb:Below w.heap.size w w1):Top w1 v3 v4 x fss:=Top_chg h (Chg.of_same (S:=fun _=>False) hb) (fun _ _ e=>e)
end Go.Proofs.YtdlhidjphaaklaaGreat.H
end
section
namespace Go.Proofs
open Go.Shelf
def Tryz.lays156_ren:Go.Shelf.Ren:=⟨fun | 156=>172 | 165=>190 | 166=>191 | 169=>192 | 240=>209 | 241=>210 | 276=>219 | 277=>220 | n=>n,fun | 31=>22 | 9=>9 | 3=>3 | 4=>4 | 0=>0 | 20=>20 | 72=>161 | 76=>165 | 70=>159 | 37=>102 | 75=>164 | 127=>180 | 164=>187 | 5=>5 | 80=>167 | n=>n,fun | n=>n⟩
theorem Tryz.lays156:Go.Proofs.Lays.n156 Tryz.prog Tryz.lays156_ren:={
  mixed:=by kernel_rfl
  f156:=Tryz.func172.trans (congrArg some (by kernel_rfl))
  f165:=Tryz.func190.trans (congrArg some (by kernel_rfl))
  f166:=Tryz.func191.trans (congrArg some (by kernel_rfl))
  f169:=Tryz.func192.trans (congrArg some (by kernel_rfl))
  f240:=Tryz.func209.trans (congrArg some (by kernel_rfl))
  f241:=Tryz.func210.trans (congrArg some (by kernel_rfl))
  f276:=Tryz.func219.trans (congrArg some (by kernel_rfl))
  f277:=Tryz.func220.trans (congrArg some (by kernel_rfl))
  t0:=Tryz.underlying0
  a0:=Tryz.isAgg0
  z0:=Tryz.sizeOf0
  v0:=Tryz.zeroValue0
  t3:=Tryz.underlying3
  a3:=Tryz.isAgg3
  z3:=Tryz.sizeOf3
  v3:=Tryz.zeroValue3
  t4:=Tryz.underlying4
  a4:=Tryz.isAgg4
  z4:=Tryz.sizeOf4
  v4:=Tryz.zeroValue4
  t9:=Tryz.underlying9
  a9:=Tryz.isAgg9
  z9:=Tryz.sizeOf9
  v9:=Tryz.zeroValue9
  t20:=Tryz.underlying20
  a20:=Tryz.isAgg20
  z20:=Tryz.sizeOf20
  v20:=Tryz.zeroValue20
  t31:=Tryz.underlying22
  a31:=Tryz.isAgg22
  z31:=Tryz.sizeOf22
  v31:=Tryz.zeroValue22
  t37:=Tryz.underlying102
  a37:=Tryz.isAgg102
  z37:=Tryz.sizeOf102
  v37:=Tryz.zeroValue102
  t70:=Tryz.underlying159
  a70:=Tryz.isAgg159
  z70:=Tryz.sizeOf159
  v70:=Tryz.zeroValue159
  t72:=Tryz.underlying161
  a72:=Tryz.isAgg161
  z72:=Tryz.sizeOf161
  v72:=Tryz.zeroValue161
  t75:=Tryz.underlying164
  a75:=Tryz.isAgg164
  z75:=Tryz.sizeOf164
  v75:=Tryz.zeroValue164
  t76:=Tryz.underlying165
  a76:=Tryz.isAgg165
  z76:=Tryz.sizeOf165
  v76:=Tryz.zeroValue165
  t127:=Tryz.underlying180
  a127:=Tryz.isAgg180
  z127:=Tryz.sizeOf180
  v127:=Tryz.zeroValue180
  t164:=Tryz.underlying187
  a164:=Tryz.isAgg187
  z164:=Tryz.sizeOf187
  v164:=Tryz.zeroValue187 }
theorem Tryz.Builder_Extra_156:Builder.Extra Tryz.prog Tryz.lays156_ren:={
  sizeBuilder:=by kernel_rfl
  liesBuilder:=by kernel_rfl
  t5:=Tryz.underlying5
  a5:=Tryz.isAgg5
  z5:=Tryz.sizeOf5
  v5:=Tryz.zeroValue5
  infoByte:=by kernel_rfl
  cellsByte:=by kernel_rfl
  sizeByte:=by kernel_rfl
  neB5:=by decide }
open Go.RowKit in
theorem Tryz.strings_Join_none (a:Option Addr) (c:Nat) (sep:ByteArray) (w:World) :
    Calls Tryz.prog 172 #[.slice a 0 c,.string sep] w fun e w'=>e=.returned (.string ⟨#[]⟩)∧w'=w:=Any.strings_Join_none Tryz.lays156 Tryz.Builder_Extra_156 a c sep w
open Go.RowKit in
theorem Tryz.strings_Join (bk o c:Nat) (xs:List ByteArray) (sep:ByteArray) (w:World) (hcells:∀ (j:Nat) x,xs[j]?=some x→w.cell? ⟨bk,o + j,none⟩=some (.string x)) (hbk:bk<w.heap.size) (hN:xs.length≤140737488355328) (hcap:xs.length≤c) (hlen:(Lib.join (xs.map (·.data.toList)) sep.data.toList).length≤140737488355328) :
    Calls Tryz.prog 172 #[.slice (some ⟨bk,o,none⟩) xs.length c,.string sep] w fun e w'=>e=.returned (.string ⟨(Lib.join (xs.map (·.data.toList)) sep.data.toList).toArray⟩)∧Below w.heap.size w w':=Any.strings_Join Tryz.lays156 Tryz.Builder_Extra_156 bk o c xs sep w hcells hbk hN hcap hlen
def Tryz.lays99_ren:Go.Shelf.Ren:=⟨fun | 99=>163 | 206=>186 | n=>n,fun | 9=>9 | 4=>4 | 3=>3 | n=>n,fun | n=>n⟩
theorem Tryz.lays99:Go.Proofs.Lays.n99 Tryz.prog Tryz.lays99_ren:={
  mixed:=by kernel_rfl
  f99:=Tryz.func163.trans (congrArg some (by kernel_rfl))
  f206:=Tryz.func186.trans (congrArg some (by kernel_rfl))
  t3:=Tryz.underlying3
  a3:=Tryz.isAgg3
  z3:=Tryz.sizeOf3
  v3:=Tryz.zeroValue3
  t4:=Tryz.underlying4
  a4:=Tryz.isAgg4
  z4:=Tryz.sizeOf4
  v4:=Tryz.zeroValue4
  t9:=Tryz.underlying9
  a9:=Tryz.isAgg9
  z9:=Tryz.sizeOf9
  v9:=Tryz.zeroValue9 }
open Go.RowKit Go.Lib in
theorem Tryz.strings_HasPrefix (s p:ByteArray) (w:World) :
    Calls Tryz.prog 163 #[.string s,.string p] w fun e w'=>e=.returned (.bool (Lib.hasPrefix s.data.toList p.data.toList))∧w'=w:=Any.strings_HasPrefix Tryz.lays99 s p w
def Tryz.lays109_ren:Go.Shelf.Ren:=⟨fun | 109=>126 | n=>n,fun | 31=>22 | 9=>9 | 3=>3 | 0=>0 | 4=>4 | n=>n,fun | n=>n⟩
theorem Tryz.lays109:Go.Proofs.Lays.n109 Tryz.prog Tryz.lays109_ren:={
  mixed:=by kernel_rfl
  f109:=Tryz.func126.trans (congrArg some (by kernel_rfl))
  t0:=Tryz.underlying0
  a0:=Tryz.isAgg0
  z0:=Tryz.sizeOf0
  v0:=Tryz.zeroValue0
  t3:=Tryz.underlying3
  a3:=Tryz.isAgg3
  z3:=Tryz.sizeOf3
  v3:=Tryz.zeroValue3
  t4:=Tryz.underlying4
  a4:=Tryz.isAgg4
  z4:=Tryz.sizeOf4
  v4:=Tryz.zeroValue4
  t9:=Tryz.underlying9
  a9:=Tryz.isAgg9
  z9:=Tryz.sizeOf9
  v9:=Tryz.zeroValue9
  t31:=Tryz.underlying22
  a31:=Tryz.isAgg22
  z31:=Tryz.sizeOf22
  v31:=Tryz.zeroValue22 }
open Go.Lib in
theorem Tryz.slices_Index_string (b off n c:Nat) (zs:List ByteArray) (x:ByteArray) (w:World) (hz:n≤zs.length) (hbig:n≤9223372036854775807) (hc:∀ j,j<zs.length→w.cell? ⟨b,off + j,none⟩=some (.string (zs.getD j ByteArray.empty))) :
    Calls Tryz.prog 126 #[.slice (some ⟨b,off,none⟩) n c,.string x] w fun e w'=>e=.returned (.int .i64 (Lib.idxOfS (zs.take n) x))∧w'=w:=Any.slices_Index_string Tryz.lays109 b off n c zs x w hz hbig hc
open Go.Lib in
theorem Tryz.slices_Index_string_empty (a:Option Addr) (c:Nat) (x:ByteArray) (w:World) :
    Calls Tryz.prog 126 #[.slice a 0 c,.string x] w fun e w'=>e=.returned (.int .i64 (Lib.idxOfS [] x))∧w'=w:=Any.slices_Index_string_empty Tryz.lays109 a c x w
def Tryz.laysNm216_ren:Go.Shelf.Ren:=⟨fun | 16=>149 | n=>n,fun | 24=>22 | 9=>9 | 4=>4 | n=>n,fun | n=>n⟩
theorem Tryz.laysNm216:Go.Proofs.Lays2.n16 Tryz.prog Tryz.laysNm216_ren:={
  mixed:=by kernel_rfl
  f16:=Tryz.func149.trans (congrArg some (by kernel_rfl))
  t4:=Tryz.underlying4
  a4:=Tryz.isAgg4
  z4:=Tryz.sizeOf4
  v4:=Tryz.zeroValue4
  t9:=Tryz.underlying9
  a9:=Tryz.isAgg9
  z9:=Tryz.sizeOf9
  v9:=Tryz.zeroValue9
  t24:=Tryz.underlying22
  a24:=Tryz.isAgg22
  z24:=Tryz.sizeOf22
  v24:=Tryz.zeroValue22
  i9:=by kernel_rfl }
open Go.RowKit Go.Lib in
theorem Tryz.slices_Clone_string (b off n c:Nat) (zs:List ByteArray) (w:World) (hz:n≤zs.length) (hbig:n*16≤140737488355328) (hc:∀ j,j<zs.length→w.cell? ⟨b,off + j,none⟩=some (.string (zs.getD j ByteArray.empty))) :
    Calls Tryz.prog 149 #[.slice (some ⟨b,off,none⟩) n c] w fun e w'=>∃ v',e=.returned v'∧w'.ownsRow w.heap.size 9 1 v' n ((zs.take n).map (Value.string))∧v' ≠ .slice none 0 0∧Below w.heap.size w w':=Any.slices_Clone_string Tryz.laysNm216 b off n c zs w hz hbig hc
open Go.RowKit Go.Lib in
theorem Tryz.slices_Clone_string_nil (n c:Nat) (w:World) :
    Calls Tryz.prog 149 #[.slice none n c] w fun e w'=>e=.returned (.slice none 0 0)∧w'=w:=Any.slices_Clone_string_nil Tryz.laysNm216 n c w
open Go.RowKit Go.Lib in
theorem Tryz.slices_Clone_string_zero (a:Addr) (c:Nat) (w:World) :
    Calls Tryz.prog 149 #[.slice (some a) 0 c] w fun e w'=>∃ v',e=.returned v'∧w'.ownsRow w.heap.size 9 1 v' 0 []∧v' ≠ .slice none 0 0∧Below w.heap.size w w':=Any.slices_Clone_string_zero Tryz.laysNm216 a c w
end Go.Proofs
end
section
namespace Go.Proofs.YtdlhidjphaaklaaGreat.H
open Go.RowKit Go.Proofs.YtdlhidjphaaklaaGreat.P Go.Proofs.YtdlhidjphaaklaaGreatW.PrintWords Go.Proofs.YtdlhidjphaaklaaGreat.M
theorem C_cells {A:Option Addr} {l:List ByteArray} {w:World} (h0:0<l.length) (hr:Kd.C Kd.string w A l.length l):∃ b off,A=some ⟨b,off,none⟩∧∀ j,j<l.length→w.cell? ⟨b,off + j,none⟩=some (.string (l.getD j ByteArray.empty)):=by
  obtain ⟨ad,rfl,hc⟩:=hr.2.2 h0
  have hg:∀ j,j<l.length→ad.spot=none∧w.cell? (ad.add j)=some (.string (l.getD j ByteArray.empty)):=by
    intro j hj
    obtain ⟨cs,h1,h2,h3⟩:=hc j _ (List.getElem?_eq_getElem hj)
    have h2':cs=[Value.string l[j]]:=h2
    subst h2'
    have h4:=h3 0 _ rfl
    rw [show j*Kd.string.sz + 0=j by show j*1 + 0=j; omega] at h4
    obtain ⟨cs0,p1,p2,p3⟩:=hc 0 _ (List.getElem?_eq_getElem h0)
    have p2':cs0=[Value.string l[0]]:=p2
    subst p2'
    have p4:=p3 0 _ rfl
    rw [show 0*Kd.string.sz + 0=0 by omega] at p4
    refine ⟨?_,by rw [List.getD_eq_getElem?_getD,List.getElem?_eq_getElem hj]; exact h4⟩
    cases hs:ad.spot with
    | none=>rfl
    | some s =>
      exfalso
      rw [show ad.add 0=ad from rfl] at p4
      unfold World.cell? at p4
      split at p4
      · rw [hs] at p4; simp at p4
      · cases p4
  obtain ⟨b,off,sp⟩:=ad
  obtain rfl:sp=none:=(hg 0 h0).1
  exact ⟨b,off,rfl,fun j hj=>by have:=(hg j hj).2; rw [Addr.add_lit] at this; exact this⟩
theorem copyS_calls (A:Option Addr) (c:Nat) (l:List ByteArray) (w:World) (hl:l.length≤1099511627776) (hr:Kd.C Kd.string w A l.length l) :
    Calls Tryz.prog 149 #[.slice A l.length c] w fun e w'=>∃ v,e=.returned v∧SRow w' v l∧(∀ k,v.ownBlock=some k→w.heap.size≤k)∧Below w.heap.size w w':=by
  rcases Nat.eq_zero_or_pos l.length with h0 | h0
  · obtain rfl : l = [] := List.eq_nil_of_length_eq_zero h0
    cases A with
    | none =>
      refine (Tryz.slices_Clone_string_nil _ _ _).mono ?_
      rintro e w' ⟨rfl,rfl⟩
      exact ⟨_,rfl,World.ownsRow_nil _ _ _ _,(fun k (hk:(none:Option Nat)=some k)=>by cases hk),Below.refl _ _⟩
    | some a =>
      refine (Tryz.slices_Clone_string_zero a _ _).mono ?_
      rintro e w' ⟨v,rfl,ho,_,hb⟩
      exact ⟨_,rfl,own_weaken ho (Nat.zero_le _),fun k hk=>(ho.lt k hk).1,hb⟩
  · obtain ⟨b, off, rfl, hg⟩ := C_cells h0 hr
    refine (Tryz.slices_Clone_string b off l.length c l w (Nat.le_refl _) (by omega) hg).mono ?_
    rintro e w' ⟨v,rfl,ho,_,hb⟩
    rw [List.take_of_length_le (Nat.le_refl _)] at ho
    exact ⟨_,rfl,own_weaken ho (Nat.zero_le _),fun k hk=>(ho.lt k hk).1,hb⟩
def ToCopy (x : S32) : Prop := ∀ (A3 A4 : Option Addr) (c3 c4 : Nat) (w : World), Kd.C Kd.string w A3 x.f3.length x.f3 → x.f3.length ≤ c3 → k32.C w A4 x.f4.length x.f4 → x.f4.length ≤ c4 →
    Calls Tryz.prog 124 #[.agg #[.int .i64 x.f0,.int .i64 x.f1,.string x.f2,.slice A3 x.f3.length c3,.slice A4 x.f4.length c4]] w fun e w'=>∃ v3 v4 fss,e=.returned (.agg #[.int .i64 x.f0,.int .i64 x.f1,.string x.f2,v3,v4])∧Top w' v3 v4 x fss∧(∀ k ∈ topFp v3 v4 fss,w.heap.size≤k)∧Below w.heap.size w w'
theorem rdT2 (xs:List S32) (i:Nat) (h:i<xs.length):rd_T32 xs (i:Int)=xs[i]:=by
  show xs.getD i _=_
  rw [List.getD_eq_getElem?_getD,List.getElem?_eq_getElem h]
  rfl
theorem len_cnt (kids:List S32):kids.length≤(kids.map cntK).sum:=by
  induction kids with
  | nil=>exact Nat.le_refl _
  | cons a l ih =>
    rw [List.length_cons,List.map_cons,List.sum_cons,cntK_eq]
    omega
section
variable {P:Program} {ops:Array Oper} {rest:List Oper} {o:Oper} {a:Act} {Q:Exit→Act→World→Prop}
theorem lit0_event {W : World} (hgd : o.guard = none) {N : Tmp} (_hd : o.dst = some N) {t : TypeId} (s : Nat)
    (hrun:(execOp a.eval o).run P W=.ok (.value (.slice (some ⟨W.heap.size,0,none⟩) 0 0)) (W.alloc (.cells #[] t (0,0))))
    (h:∀ u w1,w1.ownsRow W.heap.size t s u 0 []→u.ownBlock=some W.heap.size→Below W.heap.size W w1→wpList P ops Q rest (a.put o.dst u) w1):wpList P ops Q (o :: rest) a W :=
  Kd.event_run hgd hrun (h _ _ (World.ownsRow_lit (base:=W.heap.size) (e:=t) (size:=s) W #[] 0 (Nat.le_refl _) (by decide) (by simp)) rfl (below_alloc (Below.refl _ _) _))
end
theorem app_fp {a b b' c f:List Nat} {m n:Nat} (h:(a ++ (b ++ c)).Nodup) (hf:f.Nodup) (h1:∀ k ∈ a ++ (b ++ c),k<m) (h2:∀ k ∈ f,m≤k∧k<n) (h3:b'=b ∨ ∃ q,b'=[q]∧n≤q) (hmn:m≤n) :
    (a ++ (b' ++ (c ++ f))).Nodup:=by
  simp only [List.nodup_append,List.mem_append] at h h1 ⊢
  obtain ⟨ha,⟨hb,hc,hbc⟩,habc⟩:=h
  rcases h3 with rfl | ⟨q,rfl,hq⟩
  · refine ⟨ha, ⟨hb, ⟨hc, hf, fun x hx y hy e => ?_⟩, fun x hx y hy e => ?_⟩, fun x hx y hy e => ?_⟩
    · have:=h1 x (.inr (.inr hx)); have:=(h2 y hy).1; omega
    · rcases hy with hy | hy
      · exact hbc x hx y hy e
      · have:=h1 x (.inr (.inl hx)); have:=(h2 y hy).1; omega
    · rcases hy with hy | hy | hy
      · exact habc x hx y (.inl hy) e
      · exact habc x hx y (.inr hy) e
      · have:=h1 x (.inl hx); have:=(h2 y hy).1; omega
  · refine ⟨ha, ⟨by simp, ⟨hc, hf, fun x hx y hy e => ?_⟩, fun x hx y hy e => ?_⟩, fun x hx y hy e => ?_⟩
    · have:=h1 x (.inr (.inr hx)); have:=(h2 y hy).1; omega
    · obtain rfl : x = q := by simpa using hx
      rcases hy with hy | hy
      · have:=h1 y (.inr (.inr hy)); omega
      · have:=(h2 y hy).2; omega
    · rcases hy with hy | hy | hy
      · have := h1 x (.inl hx); obtain rfl : y = q := by simpa using hy
        omega
      · exact habc x hx y (.inr hy) e
      · have:=h1 x (.inl hx); have:=(h2 y hy).1; omega
set_option maxHeartbeats 8000000 in
set_option maxRecDepth 100000 in
theorem copy_of (x:S32) (hc:cntTop x≤1099511627776) (ih:∀ y ∈ x.f4,ToCopy y):ToCopy x:=by
  intro A3 A4 c3 c4 w g3 l3 g4 l4
  have hu:=Tryz.underlying32
  have hl3:x.f3.length≤1099511627776:=by unfold cntTop at hc; omega
  have hl4:x.f4.length≤1099511627776:=by have:=len_cnt x.f4; unfold cntTop at hc; omega
  have G3:=Lib.hid g3
  have G4:=Lib.hid g4
  have IH:=Lib.hid ih
  clear g3 g4 ih hc
  go_enter Tryz.func124,Tryz.ntmps124
  go_wp2_with (first
    | ((with_reducible refine gate_dst (N:=1) rfl ?_); refine box_event rfl (N:=1) rfl (cs:=#[.int .i64 x.f0,.int .i64 x.f1,.string x.f2,.slice A3 x.f3.length c3,.slice A4 x.f4.length c4]) (t:=32) (by first | (go_simp; done) | (go_simp; rfl)) ?_; intro gb hgb wa bk hb; have HGB:=Lib.hid hgb; have BKa:=Lib.hid bk; have HBa:=Lib.hid hb; clear hgb bk hb)
    | ((with_reducible refine gate_dst (N:=2) rfl ?_); refine box_event rfl (N:=2) rfl (cs:=#[.int .i64 0,.int .i64 0,.string ⟨#[]⟩,.slice none 0 0,.slice none 0 0]) (t:=32) (by first | (go_simp; done) | (go_simp; rfl)) ?_; intro gr hgr wb bk hb; have HGR:=Lib.hid hgr; have RSb:=Lib.hid bk; have HBb:=Lib.hid (HBa.out.trans (hb.mono HBa.out.size)); have BKb:=Lib.hid (blk_below BKa.out hb); have y3:wb.cell? ⟨gb,3,none⟩=some (.slice A3 x.f3.length c3):=(blk_cell BKb.out 3).trans rfl; clear hgr bk hb)
    | (go_at_call 149; refine (copyS_calls _ _ x.f3 _ hl3 (Kd.C_below G3.out HBb.out)).mono ?_; rintro e w1 ⟨v3,rfl,hs,hf,hb⟩; obtain ⟨B3,d3,rfl,m3,n3⟩:=SRow_C hs; have HS:=Lib.hid hs; have HF:=Lib.hid hf; have HB1:=Lib.hid (HBb.out.trans (hb.mono HBb.out.size)); have BK1:=Lib.hid (blk_below BKb.out hb); have RS1:=Lib.hid (blk_below RSb.out hb); have HSZ:=Lib.hid hb.size; have f3:=blk_frozen BK1.out 3; have z3:w1.cell? ⟨gb,3,none⟩=some (.slice A3 x.f3.length c3):=(blk_cell BK1.out 3).trans rfl; clear hs hf hb n3)
    | ((with_reducible refine gate_dst (N:=10) rfl ?_); refine lit0_event rfl (N:=10) rfl (t:=32) 5 (by first | (go_simp; done) | (go_simp; rfl)) ?_; intro u w2 hown hat hb; have BK2:=Lib.hid (blk_below (blk_set BK1.out 3 (.slice B3 x.f3.length d3)) hb); have y4:w2.cell? ⟨gb,4,none⟩=some (.slice A4 x.f4.length c4):=(blk_cell BK2.out 4).trans rfl; have HO2:=Lib.hid hown; have HAT:=Lib.hid hat; have HB:=Lib.hid hb; clear hown hat hb))
  have hgb:=HGB.out
  have hgr:=HGR.out
  have hgb2:gb<wa.heap.size:=blk_lt BKa.out
  have hgb3:gb<wb.heap.size:=blk_lt BKb.out
  have hgr2:gr<wb.heap.size:=blk_lt RSb.out
  have hz1:=HSZ.out
  have hgw:w.heap.size≤gr:=by have:=HBa.out.size; omega
  have hne:gb ≠ gr:=by omega
  have hse:(w1.setCell ⟨gb,3,none⟩ (.slice B3 x.f3.length d3)).heap.size=w1.heap.size:=by simp [World.setCell]
  have hsc:Chg (fun k=>k=gb) w1 w2:=(Chg.set (S:=fun k=>k=gb) w1 ⟨gb,3,none⟩ (.slice B3 x.f3.length d3) rfl).trans (Chg.of_same HB.out)
  have HS2:=Lib.hid (own_chg HS.out hsc (fun k hk e=>by have:=HF.out k hk; omega):SRow w2 (.slice B3 x.f3.length d3) x.f3)
  have HBL2:=Lib.hid ((HB1.out.setCell (p:=⟨gb,3,none⟩) (by show w.heap.size≤gb; omega) (.slice B3 x.f3.length d3)).trans (HB.out.mono (by rw [hse]; exact HB1.out.size)):Below w.heap.size w w2)
  have RS2:=Lib.hid (blk_below (blk_far RS1.out (p:=⟨gb,3,none⟩) (fun e=>hne e.symm) (.slice B3 x.f3.length d3)) HB.out)
  have HO3:=Lib.hid (own_weaken HO2.out (by rw [hse]; exact HB1.out.size):w2.ownsRow w.heap.size 32 5 u 0 [])
  have hkb:∀ k,(Value.slice B3 x.f3.length d3).ownBlock=some k→k<w1.heap.size:=fun k hk=>(HS.out.lt k hk).2
  have HND:Hid (((Value.slice B3 x.f3.length d3).ownBlock.toList ++ (u.ownBlock.toList ++ ([]:List (List Nat)).flatten)).Nodup):=by
    show List.Nodup _
    rw [HAT.out,hse,List.flatten_nil,List.append_nil]
    refine List.nodup_append.2 ⟨by cases (Value.slice B3 x.f3.length d3).ownBlock <;> simp,by simp,fun k hk m hm e=>?_⟩
    have:=hkb k (mem_own.1 hk)
    simp at hm
    omega
  have HGE:Hid (∀ k ∈ (Value.slice B3 x.f3.length d3).ownBlock.toList ++ (u.ownBlock.toList ++ ([]:List (List Nat)).flatten),wb.heap.size≤k):=by
    show ∀ k ∈ _,_
    intro k hk
    rw [HAT.out,hse,List.flatten_nil,List.append_nil,List.mem_append,mem_own] at hk
    rcases hk with hk | hk
    · exact HF.out k hk
    · simp at hk
      omega
  have HSZ2:Hid (wb.heap.size≤w2.heap.size):=by show _≤_; have:=HB.out.size; rw [hse] at this; omega
  clear hz1 hse hsc hkb hgb hgr
  go_loopg [3, 14] (x.f4.length + 1) (fun kq v3 v14 w' => ∃ (i : Nat) (inr : List Value) (fs : List (List Nat)), v14 = .int .i64 i ∧ i ≤ x.f4.length ∧ kq + i = x.f4.length + 1 ∧ Aside0 (w'.ownsRow w.heap.size 32 5 v3 i inr) ∧ Aside0 (fs.length = i) ∧ Aside0 (∀ j (hj : j < x.f4.length) f, fs[j]? = some f → OT w' x.f4[j] ((inr.drop (j * 5)).take 5) f) ∧
    Aside0 (((Value.slice B3 x.f3.length d3).ownBlock.toList ++ (v3.ownBlock.toList ++ fs.flatten)).Nodup)∧Aside0 (∀ k ∈ (Value.slice B3 x.f3.length d3).ownBlock.toList ++ (v3.ownBlock.toList ++ fs.flatten),wb.heap.size≤k)∧Aside0 (SRow w' (.slice B3 x.f3.length d3) x.f3) ∧
    Aside0 (w'.heap[gb]?=some (.cells #[.int .i64 x.f0,.int .i64 x.f1,.string x.f2,.slice B3 x.f3.length d3,.slice A4 x.f4.length c4] 32 (0,0)))∧Aside0 (w'.heap[gr]?=some (.cells #[.int .i64 0,.int .i64 0,.string ⟨#[]⟩,.slice none 0 0,.slice none 0 0] 32 (0,0)))∧Aside0 (Below w.heap.size w w')∧Aside0 (wb.heap.size≤w'.heap.size))
  case atStart=>exact ⟨0,[],[],rfl,Nat.zero_le _,by omega,⟨HO3.out⟩,⟨rfl⟩,⟨fun j hj f hf=>by simp at hf⟩,⟨HND.out⟩,⟨HGE.out⟩,⟨HS2.out⟩,⟨BK2.out⟩,⟨RS2.out⟩,⟨HBL2.out⟩,⟨HSZ2.out⟩⟩
  case round =>
    obtain ⟨i,inr,fs,rfl,hi,hq,HRr,HFl,HT,HN,HG,HSr,BKr,RSr,HBr,HWB⟩:=hrel
    obtain ⟨k1,rfl⟩:∃ k1,gk=k1 + 1:=⟨gk - 1,by omega⟩
    by_cases hlt:i<x.f4.length
    · have hltb : decide (i < x.f4.length) = true := decide_eq_true hlt
      obtain ⟨ad,A3',c3',A4',c4',ea,x0,x1,x2,x3,x4,l3',g3,l4',g4⟩:=at_T32 (Kd.C_below G4.out HBr.out) (i:Int) (by omega) (by omega)
      have er:rd_T32 x.f4 (i:Int)=x.f4[i]:=rdT2 x.f4 i hlt
      rw [er] at x0 x1 x2 x3 x4 l3' g3 l4' g4
      rw [Int.toNat_natCast] at x0 x1 x2 x3 x4
      subst ea
      have G3':=Lib.hid g3
      have G4':=Lib.hid g4
      clear g3 g4 er
      go_wp2_with (first
        | ((with_reducible refine gate_dst (N:=5) rfl ?_); refine box_event rfl (N:=5) rfl (cs:=#[.int .i64 0,.int .i64 0,.string ⟨#[]⟩,.slice none 0 0,.slice none 0 0]) (t:=32) (by first | (go_simp; done) | (go_simp; rfl)) ?_; intro g5 hg5 w5 bk hb; have HG5:=Lib.hid hg5; have BK5:=Lib.hid bk; have HB5:=Lib.hid hb; have q0:=blk_frozen BK5.out 0; have q1:=blk_frozen BK5.out 1; have q2:=blk_frozen BK5.out 2; have q3:=blk_frozen BK5.out 3; have q4:=blk_frozen BK5.out 4; have z0:w5.cell? ⟨g5,0,none⟩=some (.int .i64 0):=(blk_cell BK5.out 0).trans rfl; have z1:w5.cell? ⟨g5,1,none⟩=some (.int .i64 0):=(blk_cell BK5.out 1).trans rfl; have z2:w5.cell? ⟨g5,2,none⟩=some (.string ⟨#[]⟩):=(blk_cell BK5.out 2).trans rfl; have z3:w5.cell? ⟨g5,3,none⟩=some (.slice none 0 0):=(blk_cell BK5.out 3).trans rfl; have z4:w5.cell? ⟨g5,4,none⟩=some (.slice none 0 0):=(blk_cell BK5.out 4).trans rfl; have HBW:=Lib.hid (((((HB5.out.setCell (p:=⟨g5,0,none⟩) (Nat.le_of_eq hg5.symm) (.int .i64 x.f4[i].f0)).setCell (p:=⟨g5,1,none⟩) (Nat.le_of_eq hg5.symm) (.int .i64 x.f4[i].f1)).setCell (p:=⟨g5,2,none⟩) (Nat.le_of_eq hg5.symm) (.string x.f4[i].f2)).setCell (p:=⟨g5,3,none⟩) (Nat.le_of_eq hg5.symm) (.slice A3' x.f4[i].f3.length c3')).setCell (p:=⟨g5,4,none⟩) (Nat.le_of_eq hg5.symm) (.slice A4' x.f4[i].f4.length c4')); clear hg5 bk hb)
        | (go_at_call 124; refine (IH.out x.f4[i] (List.getElem_mem hlt) _ _ _ _ _ (Kd.C_below G3'.out HBW.out) l3' (Kd.C_below G4'.out HBW.out) l4').mono ?_; rintro e w6 ⟨v3,v4,gss,rfl,ht,hg2,hb2⟩; obtain ⟨D3,e3,rfl,m3',n3⟩:=SRow_C ht.1; obtain ⟨D4,e4,rfl,m4',n4⟩:=ORow_C ht.2.1; have HT6:=Lib.hid ht; have HG6:=Lib.hid hg2; have HB6:=Lib.hid hb2; have HW6:=Lib.hid (HBW.out.trans (hb2.mono HBW.out.size)); have HL6:=Lib.hid (HBr.out.trans (HW6.out.mono HBr.out.size)); clear ht hg2 hb2 n3 n4)
        | ((with_reducible refine gate_builtin (b:=.append) (xs:=#[.tmp 18,.tmp 21]) rfl ?_); at_builtin; refine print_append_cells (w0:=w) (W:=w6) w.heap.size rfl (.tmp 18) (.tmp 21) 30 32 (.agg #[(.int .i64 0),(.int .i64 0),(.string ⟨#[]⟩),(.slice none 0 0),(.slice none 0 0)]) 5 80 rfl Tryz.underlying30 info32 rfl (by decide) (by decide) u3 i inr [.int .i64 x.f4[i].f0,.int .i64 x.f4[i].f1,.string x.f4[i].f2,.slice D3 x.f4[i].f3.length e3,.slice D4 x.f4[i].f4.length e4] rfl rfl rfl (by intro u hu; simp at hu; rcases hu with rfl | rfl | rfl | rfl | rfl <;> rfl) (own_below HRr.out HW6.out) HL6.out HL6.out.size (by omega) ?_; intro u7 w7 hown hbl hgr hat; have HO7:=Lib.hid hown; have HL7:=Lib.hid hbl; have HGR7:=Lib.hid hgr; have HAT7:=Lib.hid hat; clear hown hbl hgr hat)
        )
      have hfp6:∀ k ∈ topFp (.slice D3 x.f4[i].f3.length e3) (.slice D4 x.f4[i].f4.length e4) gss,wr.heap.size≤k∧k<w6.heap.size:=fun k hk=>⟨Nat.le_trans HBW.out.size (HG6.out k hk),Top_lt HT6.out k hk⟩
      have hown:∀ k ∈ (Value.slice B3 x.f3.length d3).ownBlock.toList ++ (u3.ownBlock.toList ++ fs.flatten),k<wr.heap.size:=by
        intro k hk
        simp only [List.mem_append,mem_own] at hk
        rcases hk with hk | hk | hk
        · exact (HSr.out.lt k hk).2
        · exact (HRr.out.lt k hk).2
        · obtain ⟨f, hf, hkf⟩ := List.mem_flatten.1 hk
          obtain ⟨j,hj,rfl⟩:=List.getElem_of_mem hf
          have hj2:j<x.f4.length:=by have:=HFl.out; omega
          exact OT_lt _ _ _ (HT.out j hj2 _ (List.getElem?_eq_getElem hj)) k hkf
      have hat:u7.ownBlock.toList=u3.ownBlock.toList ∨ ∃ q,u7.ownBlock.toList=[q]∧w6.heap.size≤q:=by
        rcases HAT7.out with e | ⟨q,e,hq⟩
        · exact .inl (by rw [e])
        · exact .inr ⟨q,by rw [e]; rfl,hq⟩
      have hcg:Chg (fun k=>u3.ownBlock=some k) wr w7:=(Chg.of_same HW6.out).trans (Chg.grown HGR7.out (fun k e=>e))
      have hs6:=HW6.out.size
      have hsr:=HBr.out.size
      have hu3:∀ k,u3.ownBlock=some k→wb.heap.size≤k:=fun k hk=>HG.out k (by simp [hk])
      have hinr:inr.length=i*5:=HRr.out.1
      have HFP:=Lib.hid hfp6
      have HOWN:=Lib.hid hown
      have HATT:=Lib.hid hat
      have HCG:=Lib.hid hcg
      have HU3:=Lib.hid hu3
      clear hfp6 hown hat hcg hu3
      go_roundg k1
      case rel =>
        refine ⟨i + 1,inr ++ _,fs ++ [topFp (.slice D3 x.f4[i].f3.length e3) (.slice D4 x.f4[i].f4.length e4) gss],by go_num,by omega,by omega,⟨HO7.out⟩,⟨by rw [List.length_append,HFl.out]; rfl⟩,⟨fun j hj f hf=>?_⟩,⟨?_⟩,⟨fun k hk=>?_⟩,⟨?_⟩,⟨?_⟩,⟨?_⟩,⟨HL7.out⟩,⟨by have:=HCG.out.size; have:=HWB.out; omega⟩⟩
        · rcases Nat.lt_or_ge j i with hji | hji
          · rw [List.getElem?_append_left (by rw [HFl.out]; exact hji)] at hf
            have e1:((inr ++ [Value.int .i64 x.f4[i].f0,.int .i64 x.f4[i].f1,.string x.f4[i].f2,.slice D3 x.f4[i].f3.length e3,.slice D4 x.f4[i].f4.length e4]).drop (j*5)).take 5=(inr.drop (j*5)).take 5:=by
              rw [List.drop_append_of_le_length (by omega),List.take_append_of_le_length (by rw [List.length_drop]; omega)]
            rw [e1]
            refine OT_chg HCG.out _ _ _ (HT.out j hj f hf) (fun k hk e=>?_)
            have hn2:=(List.nodup_append.1 (List.nodup_append.1 HN.out).2.1).2.2
            exact hn2 k (by simp [e]) k (mem_flat hf hk) rfl
          · have hjl := (List.getElem?_eq_some_iff.1 hf).1
            rw [List.length_append,HFl.out,List.length_singleton] at hjl
            obtain rfl:j=i:=by omega
            rw [List.getElem?_append_right (by rw [HFl.out]; exact Nat.le_refl _),HFl.out,Nat.sub_self] at hf
            obtain rfl:=Option.some.inj hf
            have e1:((inr ++ [Value.int .i64 x.f4[j].f0,.int .i64 x.f4[j].f1,.string x.f4[j].f2,.slice D3 x.f4[j].f3.length e3,.slice D4 x.f4[j].f4.length e4]).drop (j*5)).take 5=[Value.int .i64 x.f4[j].f0,.int .i64 x.f4[j].f1,.string x.f4[j].f2,.slice D3 x.f4[j].f3.length e3,.slice D4 x.f4[j].f4.length e4]:=by
              rw [← hinr,List.drop_left]
              rfl
            rw [e1]
            have htop:=Top_chg (S:=fun k=>u3.ownBlock=some k) HT6.out (Chg.grown HGR7.out (fun k e=>e)) (fun k hk e=>by have:=(HFP.out k hk).1; have:=(HRr.out.lt k e).2; omega)
            rw [OT_iff]
            exact ⟨_,_,gss,rfl,htop.1,htop.2.1,rfl⟩
        · rw [List.flatten_append, List.flatten_singleton]
          exact app_fp HN.out HT6.out.2.2 HOWN.out HFP.out HATT.out hs6
        · rw [List.flatten_append, List.flatten_singleton] at hk
          simp only [List.mem_append] at hk
          have hwb:=HWB.out
          rcases hk with hk | hk | hk | hk
          · exact HG.out k (by simp only [List.mem_append]; exact .inl hk)
          · rcases HATT.out with e | ⟨q, e, hq⟩
            · exact HG.out k (by simp only [List.mem_append]; rw [← e]; exact .inr (.inl hk))
            · rw [e] at hk
              obtain rfl:k=q:=by simpa using hk
              omega
          · exact HG.out k (by simp only [List.mem_append]; exact .inr (.inr hk))
          · have := (HFP.out k hk).1
            omega
        · exact own_chg HSr.out HCG.out (fun k hk e=>(List.nodup_append.1 HN.out).2.2 k (by simp [hk]) k (by simp [e]) rfl)
        · refine (HCG.out.block gb (blk_lt BKr.out) (fun e => ?_)).trans BKr.out
          have:=HU3.out gb e
          omega
        · refine (HCG.out.block gr (blk_lt RSr.out) (fun e => ?_)).trans RSr.out
          have:=HU3.out gr e
          omega
      case measure=>omega
    · obtain rfl : i = x.f4.length := by omega
      have hu4:∃ B4 d4,u3=.slice B4 x.f4.length d4:=by
        rcases HRr.out.2 with ⟨rfl,h0⟩ | ⟨g,cap,cur,rfl,_⟩
        · exact ⟨none,0,by rw [h0]⟩
        · exact ⟨_,_,rfl⟩
      have y0:wr.cell? ⟨gb,0,none⟩=some (.int .i64 x.f0):=(blk_cell BKr.out 0).trans rfl
      have y1:wr.cell? ⟨gb,1,none⟩=some (.int .i64 x.f1):=(blk_cell BKr.out 1).trans rfl
      have y2:wr.cell? ⟨gb,2,none⟩=some (.string x.f2):=(blk_cell BKr.out 2).trans rfl
      have y3:wr.cell? ⟨gb,3,none⟩=some (.slice B3 x.f3.length d3):=(blk_cell BKr.out 3).trans rfl
      have y4:wr.cell? ⟨gb,4,none⟩=some (.slice A4 x.f4.length c4):=(blk_cell BKr.out 4).trans rfl
      have q4:=blk_frozen BKr.out 4
      have r0:wr.cell? ⟨gr,0,none⟩=some (.int .i64 0):=(blk_cell RSr.out 0).trans rfl
      have r1:wr.cell? ⟨gr,1,none⟩=some (.int .i64 0):=(blk_cell RSr.out 1).trans rfl
      have r2:wr.cell? ⟨gr,2,none⟩=some (.string ⟨#[]⟩):=(blk_cell RSr.out 2).trans rfl
      have r3:wr.cell? ⟨gr,3,none⟩=some (.slice none 0 0):=(blk_cell RSr.out 3).trans rfl
      have r4:wr.cell? ⟨gr,4,none⟩=some (.slice none 0 0):=(blk_cell RSr.out 4).trans rfl
      have p0:=blk_frozen RSr.out 0
      have p1:=blk_frozen RSr.out 1
      have p2:=blk_frozen RSr.out 2
      have p3:=blk_frozen RSr.out 3
      have p4:=blk_frozen RSr.out 4
      have hne2:gr ≠ gb:=fun e=>hne e.symm
      obtain ⟨B4,d4,rfl⟩:=hu4
      go_wp2
      have hs1:∀ k ∈ topFp (.slice B3 x.f3.length d3) (.slice B4 x.f4.length d4) fs,wb.heap.size≤k:=fun k hk=>HG.out k hk
      have htop:Top wr (.slice B3 x.f3.length d3) (.slice B4 x.f4.length d4) x fs:=⟨HSr.out,⟨inr,own_weaken HRr.out (Nat.zero_le _),HFl.out,fun j hj f hf=>HT.out j hj f hf⟩,HN.out⟩
      have hS1:gb<wb.heap.size:=hgb3
      have hS2:gr<wb.heap.size:=hgr2
      have hwg:w.heap.size≤gb:=by rw [HGB.out]; exact Nat.le_refl _
      exact bodyPost_ret (v := .agg #[.int .i64 x.f0, .int .i64 x.f1, .string x.f2, .slice B3 x.f3.length d3, .slice B4 x.f4.length d4]) (by simp [results, Tryz.results124, go_sem, y0, y1, y2, y3, y4, q4, r0, r1, r2, r3, r4, p0, p1, p2, p3, p4, hne, hne2]) rfl
        ⟨_,_,fs,rfl,Top_chg (S:=fun k=>k<wb.heap.size) htop ((((((Chg.set wr ⟨gb,4,none⟩ _ hS1).trans (Chg.set _ ⟨gr,0,none⟩ _ hS2)).trans (Chg.set _ ⟨gr,1,none⟩ _ hS2)).trans (Chg.set _ ⟨gr,2,none⟩ _ hS2)).trans (Chg.set _ ⟨gr,3,none⟩ _ hS2)).trans (Chg.set _ ⟨gr,4,none⟩ _ hS2)) (fun k hk e=>by have:=hs1 k hk; omega),fun k hk=>by have:=hs1 k hk; omega,(((((HBr.out.setCell (p:=⟨gb,4,none⟩) hwg _).setCell (p:=⟨gr,0,none⟩) hgw _).setCell (p:=⟨gr,1,none⟩) hgw _).setCell (p:=⟨gr,2,none⟩) hgw _).setCell (p:=⟨gr,3,none⟩) hgw _).setCell (p:=⟨gr,4,none⟩) hgw _⟩
theorem copy_all (x:S32):cntTop x≤1099511627776→ToCopy x:=by
  refine tree_ind (P:=fun x=>cntTop x≤1099511627776→ToCopy x) (fun x ih hc=>copy_of x hc (fun y hy=>ih y hy ?_)) x
  have h1:=mem_le_sum cntK x.f4 y hy
  have h2:=cntK_eq y
  unfold cntTop at hc ⊢
  omega
end Go.Proofs.YtdlhidjphaaklaaGreat.H
end
section
namespace Go.Proofs.YtdlhidjphaaklaaGreat.M
open Go.RowKit Go.Proofs.YtdlhidjphaaklaaGreatW.PrintWords
theorem Ev.lift {α:Type} {g f:Nat→Option α} {r:α} (h:∀ k,g (k + 1)=f k) (k:Ev f r):Ev g r:=Ev.step h k
theorem Ev.eq {α:Type} {g:Nat→Option α} {a r:α} (h:∀ k,g k=some a) (e:a=r):Ev g r:=⟨0,fun k _=>by rw [h,e]⟩
theorem Ev.past {α:Type} {g:Nat→Option α} {a:α} {n:Nat} (h:∀ k,n<k→g k=some a):Ev g a:=⟨n + 1,fun k hk=>h k (by omega)⟩
theorem ev_fold {α β σ : Type} {xs : List α} {l0 : Nat → σ → Int → Option β} {step : σ → α → σ} {fin : σ → β} (Inv : Nat → σ → Prop)
    (hend:∀ s,Inv xs.length s→Ev (fun k=>l0 k s (xs.length:Int)) (fin s))
    (hstep:∀ (i:Nat) (hi:i<xs.length) s r,Inv i s→Inv (i + 1) (step s xs[i])∧(Ev (fun k=>l0 k (step s xs[i]) ((i + 1:Nat):Int)) r→Ev (fun k=>l0 k s (i:Int)) r)) :
    ∀ d i s,i + d=xs.length→Inv i s→Ev (fun k=>l0 k s (i:Int)) (fin ((xs.drop i).foldl step s)):=by
  intro d
  induction d with
  | zero =>
    intro i s hi hv
    obtain rfl:i=xs.length:=by omega
    rw [List.drop_of_length_le (Nat.le_refl _)]
    exact hend s hv
  | succ d ih =>
    intro i s hi hv
    have hx:i<xs.length:=by omega
    obtain ⟨h1,h2⟩:=hstep i hx s (fin ((xs.drop i).foldl step s)) hv
    refine h2 ?_
    rw [List.drop_eq_getElem_cons hx,List.foldl_cons]
    exact ih (i + 1) _ (by omega) h1
theorem ev_fold0 {α β σ : Type} {xs : List α} {l0 : Nat → σ → Int → Option β} {step : σ → α → σ} {fin : σ → β} (Inv : Nat → σ → Prop) (s : σ) (h0 : Inv 0 s)
    (hend:∀ s,Inv xs.length s→Ev (fun k=>l0 k s (xs.length:Int)) (fin s))
    (hstep:∀ (i:Nat) (hi:i<xs.length) s r,Inv i s→Inv (i + 1) (step s xs[i])∧(Ev (fun k=>l0 k (step s xs[i]) ((i + 1:Nat):Int)) r→Ev (fun k=>l0 k s (i:Int)) r)) :
    Ev (fun k=>l0 k s 0) (fin (xs.foldl step s)):=ev_fold Inv hend hstep xs.length 0 s (by omega) h0
theorem ev_all {n : Nat} {l0 : Nat → Int → Option Bool} {P : Nat → Bool} {e : Bool} (hend : Ev (fun k => l0 k (n : Int)) e)
    (hstep:∀ (i:Nat),i<n→(P i=true→∀ r,Ev (fun k=>l0 k ((i + 1:Nat):Int)) r→Ev (fun k=>l0 k (i:Int)) r)∧(P i=false→Ev (fun k=>l0 k (i:Int)) false)) :
    Ev (fun k=>l0 k 0) ((List.range' 0 n).all P && e):=by
  have key:∀ d i,i + d=n→Ev (fun k=>l0 k (i:Int)) ((List.range' i d).all P && e):=by
    intro d
    induction d with
    | zero =>
      intro i hi
      obtain rfl:i=n:=by omega
      simpa using hend
    | succ d ih =>
      intro i hi
      rw [List.range'_succ,List.all_cons]
      cases h:P i with
      | true=>rw [Bool.true_and]; exact (hstep i (by omega)).1 h _ (ih (i + 1) (by omega))
      | false=>rw [Bool.false_and,Bool.false_and]; exact (hstep i (by omega)).2 h
  exact key n 0 (by omega)
theorem all_range_getD {α:Type} (xs:List α) (z:α) (p:α→Bool):(List.range' 0 xs.length).all (fun i=>p (xs.getD i z))=xs.all p:=by
  cases h:xs.all p with
  | true =>
    rw [List.all_eq_true] at h ⊢
    intro i hi
    rw [List.mem_range'] at hi
    obtain ⟨j,hj,rfl⟩:=hi
    have hj':0 + 1*j<xs.length:=by omega
    rw [List.getD_eq_getElem?_getD,List.getElem?_eq_getElem hj']
    exact h _ (List.getElem_mem hj')
  | false =>
    rw [List.all_eq_false] at h
    obtain ⟨x,hx,hp⟩:=h
    rw [List.all_eq_false]
    obtain ⟨i,hi,rfl⟩:=List.getElem_of_mem hx
    refine ⟨i,by rw [List.mem_range']; exact ⟨i,hi,by omega⟩,?_⟩
    rw [List.getD_eq_getElem?_getD,List.getElem?_eq_getElem hi]
    exact hp
end Go.Proofs.YtdlhidjphaaklaaGreat.M
end
section
namespace Go.Proofs.YtdlhidjphaaklaaGreat.H
open Go.RowKit Go.Proofs.YtdlhidjphaaklaaGreat.P Go.Proofs.YtdlhidjphaaklaaGreatW.PrintWords Go.Proofs.YtdlhidjphaaklaaGreat.M
section
variable {P:Program} {ops:Array Oper} {rest:List Oper} {o:Oper} {a:Act} {Q:Exit→Act→World→Prop}
theorem put5 {W:World} {g:Nat} {t:TypeId} {a0 a1 a2 a3 a4:Value} (h:W.heap[g]?=some (.cells #[a0,a1,a2,a3,a4] t (0,0))) (u0 u1 u2 u3 u4:Value) :
    (((((W.setCell ⟨g,0,none⟩ u0).setCell ⟨g,1,none⟩ u1).setCell ⟨g,2,none⟩ u2).setCell ⟨g,3,none⟩ u3).setCell ⟨g,4,none⟩ u4).heap[g]?=some (.cells #[u0,u1,u2,u3,u4] t (0,0)) :=
  blk_put (blk_put (blk_put (blk_put (blk_put h 0 u0 rfl) 1 u1 rfl) 2 u2 rfl) 3 u3 rfl) 4 u4 rfl
theorem chg_at (w:World) (g i:Nat) (u:Value):Chg (fun k=>k=g) w (w.setCell ⟨g,i,none⟩ u):=Chg.set w ⟨g,i,none⟩ u rfl
theorem store5_event {W : World} (hgd : o.guard = none) {t : TypeId} {p : Tmp} {v : Operand} (_ho : o.op = .store t (.tmp p) v) (hN : o.dst = none) {g : Nat} {a0 a1 a2 a3 a4 : Value} (u0 u1 u2 u3 u4 : Value)
    (bk:W.heap[g]?=some (.cells #[a0,a1,a2,a3,a4] t (0,0)))
    (hrun:(execOp a.eval o).run P W=.ok .skip (((((W.setCell ⟨g,0,none⟩ u0).setCell ⟨g,1,none⟩ u1).setCell ⟨g,2,none⟩ u2).setCell ⟨g,3,none⟩ u3).setCell ⟨g,4,none⟩ u4))
    (h:∀ w',w'.heap[g]?=some (.cells #[u0,u1,u2,u3,u4] t (0,0))→Chg (fun k=>k=g) W w'→wpList P ops Q rest a w'):wpList P ops Q (o :: rest) a W :=
  store_event hgd _ho hN hrun (fun w' e=>h w' (e ▸ put5 bk u0 u1 u2 u3 u4) (e ▸ ((((chg_at W g 0 u0).trans (chg_at _ g 1 u1)).trans (chg_at _ g 2 u2)).trans (chg_at _ g 3 u3)).trans (chg_at _ g 4 u4)))
theorem cells5 {W:World} {g:Nat} {t:TypeId} {a0 a1 a2 a3 a4:Value} (h:W.heap[g]?=some (.cells #[a0,a1,a2,a3,a4] t (0,0))):W.cell? ⟨g,0,none⟩=some a0∧W.cell? ⟨g,1,none⟩=some a1∧W.cell? ⟨g,2,none⟩=some a2∧W.cell? ⟨g,3,none⟩=some a3∧W.cell? ⟨g,4,none⟩=some a4 :=
  ⟨(blk_cell h 0).trans rfl,(blk_cell h 1).trans rfl,(blk_cell h 2).trans rfl,(blk_cell h 3).trans rfl,(blk_cell h 4).trans rfl⟩
theorem free5 {W:World} {g:Nat} {t:TypeId} {cs:Array Value} (h:W.heap[g]?=some (.cells cs t (0,0))):W.frozen? ⟨g,0,none⟩=false∧W.frozen? ⟨g,1,none⟩=false∧W.frozen? ⟨g,2,none⟩=false∧W.frozen? ⟨g,3,none⟩=false∧W.frozen? ⟨g,4,none⟩=false :=
  ⟨blk_frozen h 0,blk_frozen h 1,blk_frozen h 2,blk_frozen h 3,blk_frozen h 4⟩
end
theorem blk_chg {S:Nat→Prop} {w w1:World} {g:Nat} {o:Obj} (h:w.heap[g]?=some o) (hc:Chg S w w1) (hs:¬ S g):w1.heap[g]?=some o:=(hc.block g (blk_lt h) hs).trans h
theorem ORow_below {w w1:World} {v:Value} {kids:List S32} {fss:List (List Nat)} (h:ORow w v kids fss) (hb:Below w.heap.size w w1):ORow w1 v kids fss:=ORow_chg (Chg.of_same (S:=fun _=>False) hb) h (fun _ _ e=>e) (fun _ _ e=>e)
theorem ORow_lt {w:World} {v:Value} {kids:List S32} {fss:List (List Nat)} (h:ORow w v kids fss):∀ k ∈ v.ownBlock.toList ++ fss.flatten,k<w.heap.size:=by
  obtain ⟨inner,h3,h4,h5⟩:=h
  intro k hk
  simp only [List.mem_append,mem_own,List.mem_flatten] at hk
  rcases hk with hk | ⟨f,hf,hk⟩
  · exact (h3.lt k hk).2
  · obtain ⟨i, hi, rfl⟩ := List.getElem_of_mem hf
    exact OT_lt _ _ _ (h5 i (by omega) _ (List.getElem?_eq_getElem hi)) k hk
theorem below_chg {S:Nat→Prop} {B:Nat} {w w1 w2:World} (h:Below B w w1) (hB:B≤w1.heap.size) (hc:Chg S w1 w2) (hs:∀ k,S k→B≤k):Below B w w2:=h.trans (hc.below hs hB)
def Seen (w:World) (v3 v4:Value) (x:S32):Prop:=∃ A3 c3 A4 c4,v3=.slice A3 x.f3.length c3∧v4=.slice A4 x.f4.length c4∧Kd.C Kd.string w A3 x.f3.length x.f3∧x.f3.length≤c3∧k32.C w A4 x.f4.length x.f4∧x.f4.length≤c4
theorem Seen.below {w w1:World} {v3 v4:Value} {x:S32} (h:Seen w v3 v4 x) (hb:Below w.heap.size w w1):Seen w1 v3 v4 x:=by
  obtain ⟨A3,c3,A4,c4,e3,e4,g3,l3,g4,l4⟩:=h
  exact ⟨A3,c3,A4,c4,e3,e4,Kd.C_below g3 hb,l3,Kd.C_below g4 hb,l4⟩
theorem Seen.of_top {w:World} {v3 v4:Value} {x:S32} {fss:List (List Nat)} (h:Top w v3 v4 x fss):Seen w v3 v4 x:=by
  obtain ⟨A3,c3,e3,l3,g3⟩:=SRow_C h.1
  obtain ⟨A4,c4,e4,l4,g4⟩:=ORow_C h.2.1
  exact ⟨A3,c3,A4,c4,e3,e4,g3,l3,g4,l4⟩
def Made (w:World) (x:S32) (e:Ending) (w':World):Prop:=∃ v3 v4 fss,e=.returned (.agg #[.int .i64 x.f0,.int .i64 x.f1,.string x.f2,v3,v4])∧Top w' v3 v4 x fss∧(∀ k ∈ topFp v3 v4 fss,w.heap.size≤k)∧Below w.heap.size w w'
theorem chg_put (w:World) (g i:Nat) (u:Value):Chg (fun k=>k=g) w (w.setCell ⟨g,i,none⟩ u):=Chg.set w ⟨g,i,none⟩ u rfl
theorem ev_loop {β σ : Type} {n : Nat} {l0 : Nat → σ → Int → Option β} (S : Nat → σ) {r : β} (hend : Ev (fun k => l0 k (S n) (n : Int)) r)
    (hstep:∀ i,i<n→Ev (fun k=>l0 k (S (i + 1)) ((i + 1:Nat):Int)) r→Ev (fun k=>l0 k (S i) (i:Int)) r):Ev (fun k=>l0 k (S 0) 0) r:=by
  have key:∀ d i,i + d=n→Ev (fun k=>l0 k (S i) (i:Int)) r:=by
    intro d
    induction d with
    | zero => intro i hi; obtain rfl : i = n := by omega
              exact hend
    | succ d ih=>intro i hi; exact hstep i (by omega) (ih (i + 1) (by omega))
  exact key n 0 (by omega)
theorem own_form {w:World} {b e s n:Nat} {v:Value} {xs:List Value} (h:w.ownsRow b e s v n xs) (hn:0<n):∃ g cap,v=.slice (some ⟨g,0,none⟩) n cap:=by
  rcases h.2 with ⟨_,h0⟩ | ⟨g,cap,cur,hv,_⟩
  · omega
  · exact ⟨g,cap,hv⟩
theorem getD_at (l:List ByteArray) (j:Nat) (h:j<l.length):l.getD j ByteArray.empty=l[j]:=by rw [List.getD_eq_getElem?_getD,List.getElem?_eq_getElem h]; rfl
theorem mt_ev {n:Int} (h:n≤4611686018427387904):Ev (fun k=>laws_markText.f k n) (mt n):=by
  obtain ⟨k,hk⟩:=mt_is h
  exact Ev.of (fun k=>laws_markText.mono _ k) hk
theorem heldS_ev (xs:List ByteArray) (k0:Int) (h:xs=mkS xs.length k0) (h0:0≤k0) (hb:k0 + (xs.length:Nat)≤4611686018427387904) (hl:xs.length≤1099511627776):Ev (fun k=>laws_heldStringS.f k xs k0) (k0 + (xs.length:Nat)):=by
  unfold laws_heldStringS.f
  have hx:∀ i (hi:i<xs.length),xs[i]=mt (k0 + (i:Nat)):=by
    intro i hi
    have e:xs[i]?=(mkS xs.length k0)[i]?:=by rw [← h]
    rw [List.getElem?_eq_getElem hi] at e
    simp [mkS,List.getElem?_range hi] at e
    exact e
  have:=ev_loop (n:=xs.length) (l0:=fun k (s:Int) i=>laws_heldStringS.l0 k xs s i) (S:=fun i=>k0 + (i:Nat)) (r:=k0 + (xs.length:Nat)) ?_ ?_
  · simpa using this
  · refine Ev.step (f := fun _ => some (k0 + (xs.length : Nat))) (fun k => ?_) (Ev.now _)
    simp only [laws_heldStringS.l0]
    rw [if_neg (by omega)]
  · intro i hi ih
    refine Ev.step (f:=fun k=>(laws_markText.f k (k0 + (i:Nat))).bind fun t116=>(if (rdOf ByteArray.empty xs (i:Int)).toList=t116.toList then (laws_heldStringS.l0 k xs (wrap64 (k0 + (i:Nat) + 1)) (wrap64 ((i:Int) + 1))) else (some (-1)))) (fun k=>?_) ?_
    · simp only [laws_heldStringS.l0]
      rw [if_pos (by omega),if_pos (by omega)]
    · refine Ev.bind (mt_ev (by omega)) ?_
      have e:rdOf ByteArray.empty xs (i:Int)=mt (k0 + (i:Nat)):=by
        show xs.getD i _=_
        rw [List.getD_eq_getElem?_getD,List.getElem?_eq_getElem hi]
        exact hx i hi
      rw [e,wsucc (by omega),w64 (by omega) (by omega)]
      simp only [if_true]
      rw [show k0 + (i:Nat) + 1=k0 + ((i + 1:Nat):Int) by omega]
      exact ih
theorem heldN_ev:∀ (N:Nat) (kids:List S32) (k0:Int),(kids.map cntK).sum≤N→MkL kids k0→0≤k0→k0 + ((kids.map cntK).sum:Nat)≤4611686018427387904→N≤1099511627776→Ev (fun k=>laws_heldNodeS.f k kids k0) (k0 + ((kids.map cntK).sum:Nat)):=by
  intro N
  induction N using Nat.strongRecOn with
  | _ N IH =>
  intro kids k0 hN hm h0 hb hbN
  have hl:=len_cnt kids
  refine Ev.step (f:=fun k=>laws_heldNodeS.l0 k kids k0 0) (fun k=>by simp only [laws_heldNodeS.f]) ?_
  have:=ev_loop (n:=kids.length) (l0:=fun k (s:Int) i=>laws_heldNodeS.l0 k kids s i) (S:=fun i=>k0 + (((kids.take i).map cntK).sum:Nat)) (r:=k0 + ((kids.map cntK).sum:Nat)) ?_ ?_
  · simpa using this
  · refine Ev.step (f := fun _ => some (k0 + ((kids.map cntK).sum : Nat))) (fun k => ?_) (Ev.now _)
    simp only [laws_heldNodeS.l0]
    rw [if_neg (by omega),List.take_of_length_le (Nat.le_refl _)]
  · intro i hi ih
    have hc:=cnt_mem hi
    have hs:=cnt_take_succ hi
    have hk:=(MkT_iff _ _).1 (hm i hi)
    have hcx:=cntK_eq kids[i]
    generalize hkx:k0 + (((kids.take i).map cntK).sum:Nat)=kx at hk ⊢
    obtain ⟨e0,e1,e2,e3,e4⟩:=hk
    have er:rd_T32 kids (i:Int)=kids[i]:=rdT2 kids i hi
    have i2:wrap64 (wrap64 (kx + 1) + 1)=kx + 2:=by rw [w64 (i:=kx + 1) (by omega) (by omega),w64 (by omega) (by omega)]; omega
    have i3:wrap64 (kx + 2 + 1)=kx + 3:=by rw [w64 (by omega) (by omega)]; omega
    refine Ev.step (f:=fun k=>((laws_markText.f k (kx + 2)).bind fun t120=>(if (kids[i].f2).toList=t120.toList then ((laws_heldStringS.f k (kids[i].f3) (kx + 3)).bind fun t122=>(if t122<0 then (some (-1)) else ((laws_heldNodeS.f k (kids[i].f4) t122).bind fun t124=>(if t124<0 then (some (-1)) else (laws_heldNodeS.l0 k kids t124 (wrap64 ((i:Int) + 1))))))) else (some (-1))))) (fun k=>?_) ?_
    · simp only [laws_heldNodeS.l0]
      rw [if_pos (by omega),if_pos (by omega),er,if_pos e0,if_pos (by rw [e1,w64 (by omega) (by omega)]),i2,i3]
    · refine Ev.bind (mt_ev (by omega)) ?_
      refine Ev.congr (fun k=>if_pos (by rw [e2])) ?_
      refine Ev.bind (heldS_ev _ _ e3 (by omega) (by omega) (by omega)) ?_
      refine Ev.congr (fun k=>if_neg (by omega)) ?_
      refine Ev.bind (IH (kids[i].f4.map cntK).sum (by omega) kids[i].f4 _ (Nat.le_refl _) e4 (by omega) (by omega) (by omega)) ?_
      refine Ev.congr (fun k=>if_neg (by omega)) ?_
      rw [wsucc (by omega)]
      have e:kx + 3 + (kids[i].f3.length:Nat) + ((kids[i].f4.map cntK).sum:Nat)=k0 + (((kids.take (i + 1)).map cntK).sum:Nat):=by omega
      rw [e]
      exact ih
theorem held_ev (x:S32) (k0:Int) (h:MkTop x k0) (h0:0≤k0) (hb:k0 + (cntTop x:Nat)≤4611686018427387904) (hl:cntTop x≤1099511627776):Ev (fun k=>laws_heldNode.f k x.f0 x.f1 x.f2 x.f3 x.f4 k0) (k0 + (cntTop x:Nat)):=by
  unfold cntTop at hb hl
  refine Ev.congr (f:=fun k=>(laws_heldStringS.f k x.f3 k0).bind fun t=>if t<0 then some (-1) else (laws_heldNodeS.f k x.f4 t).bind fun t2=>if t2<0 then some (-1) else some t2) (fun k=>by unfold laws_heldNode.f; rfl) ?_
  refine Ev.bind (heldS_ev _ _ h.1 (by omega) (by omega) (by omega)) ?_
  refine Ev.congr (fun k=>if_neg (by omega)) ?_
  refine Ev.bind (heldN_ev _ _ _ (Nat.le_refl _) h.2 (by omega) (by omega) (by omega)) ?_
  refine Ev.congr (fun k=>if_neg (by omega)) ?_
  unfold cntTop
  rw [show k0 + ((x.f3.length + (x.f4.map cntK).sum:Nat):Int)=k0 + (x.f3.length:Nat) + ((x.f4.map cntK).sum:Nat) by omega]
  exact Ev.now _
end Go.Proofs.YtdlhidjphaaklaaGreat.H
end
section
namespace Go.Proofs.YtdlhidjphaaklaaGreat.M
open Go.RowKit Go.Proofs.YtdlhidjphaaklaaGreat.P Go.Proofs.YtdlhidjphaaklaaGreatW.PrintWords
def rnd : S32 → Nat
  | ⟨_,_,_,ks,kids⟩=>5 + ks.length + kids.length + (kids.attach.map fun x=>rnd x.1).sum
termination_by x=>SizeOf.sizeOf x
decreasing_by
  have:=List.sizeOf_lt_of_mem x.2
  simp only [S32.mk.sizeOf_spec]
  omega
theorem rnd_eq (a:S32):rnd a=5 + a.f3.length + a.f4.length + (a.f4.map rnd).sum:=by
  obtain ⟨f0,f1,f2,f3,f4⟩:=a
  rw [rnd]
  congr 1
  simp
theorem rnd_kid {a x:S32} (h:x ∈ a.f4):rnd x + 5 + a.f3.length + a.f4.length≤rnd a:=by
  have:=mem_le_sum rnd a.f4 x h
  rw [rnd_eq a]; omega
noncomputable def dec (p:Prop):Bool:=@decide p (Classical.propDecidable p)
theorem dec_iff {p:Prop}:dec p=true ↔ p:=@decide_eq_true_iff p (Classical.propDecidable p)
theorem dec_true {p:Prop} (h:p):dec p=true:=dec_iff.2 h
theorem dec_false {p:Prop} (h:¬ p):dec p=false:=by cases e:dec p with | false=>rfl | true=>exact absurd (dec_iff.1 e) h
theorem dec_cong {p q:Prop} (h:p ↔ q):dec p=dec q:=by rw [propext h]
theorem getD_at' {α:Type} (xs:List α) (z:α) (i:Nat) (h:i<xs.length):xs.getD i z=xs[i]:=by rw [List.getD_eq_getElem?_getD,List.getElem?_eq_getElem h]; rfl
theorem list_eq_all {α:Type} (z:α) (xs ys:List α) (h:xs.length=ys.length):(List.range' 0 xs.length).all (fun i=>dec (xs.getD i z=ys.getD i z))=dec (xs=ys):=by
  by_cases e:xs=ys
  · subst e; rw [dec_true rfl,List.all_eq_true]; intro i _; exact dec_true rfl
  · rw [dec_false e]
    cases hc:(List.range' 0 xs.length).all (fun i=>dec (xs.getD i z=ys.getD i z)) with
    | false=>rfl
    | true =>
      exfalso
      apply e
      apply List.ext_getElem h
      intro i h1 h2
      have:=dec_iff.1 (List.all_eq_true.1 hc i (by rw [List.mem_range']; exact ⟨i,h1,by omega⟩))
      rwa [getD_at' xs z i h1,getD_at' ys z i h2] at this
theorem scanEq {α : Type} {g : Nat → Int → Option Bool} {K : Nat} {e : Bool} (z : α) (xs ys : List α) (h : xs.length = ys.length) (hend : ∀ k, K ≤ k → g (k + 1) (xs.length : Int) = some e)
    (hs1:∀ k (i:Nat),K≤k→i<xs.length→xs.getD i z=ys.getD i z→g (k + 1) (i:Int)=g k ((i + 1:Nat):Int)) (hs2:∀ k (i:Nat),K≤k→i<xs.length→xs.getD i z ≠ ys.getD i z→g (k + 1) (i:Int)=some false)
    (k:Nat) (hk:xs.length + K<k):g k 0=some (dec (xs=ys) && e):=by
  have q := scanK (g := g) (n := xs.length) (K := K) (P := fun i => dec (xs.getD i z = ys.getD i z)) (e := e) hend
    (fun k i hk hi=>by
      by_cases c:xs.getD i z=ys.getD i z
      · rw [hs1 k i hk hi c,dec_true c,if_pos rfl]
      · rw [hs2 k i hk hi c,dec_false c,if_neg (by decide)]) xs.length 0 k (by omega) hk
  have e0:((0:Nat):Int)=0:=rfl
  rw [e0,list_eq_all z xs ys h] at q
  exact q
theorem rdS (xs:List ByteArray) (i:Nat):rdOf ByteArray.empty xs (i:Int)=xs.getD i ByteArray.empty:=rfl
theorem rdT (xs:List S32) (i:Nat):rd_T32 xs (i:Int)=xs.getD i z32:=rfl
theorem eqStrings_eq (xs ys:List ByteArray) (hl:xs.length≤1099511627776) (k:Nat) (hk:xs.length<k):laws_eqStringS.f k xs ys=some (dec (xs=ys)):=by
  unfold laws_eqStringS.f
  by_cases h:xs.length=ys.length
  · rw [if_pos (by omega), scanEq (g := fun k i => laws_eqStringS.l0 k xs ys i) (K := 0) (e := true) ByteArray.empty xs ys h (fun k _ => by simp only [laws_eqStringS.l0]; rw [if_neg (by omega)])
      (fun k i _ hi c=>by
        simp only [laws_eqStringS.l0]
        rw [if_pos (by omega),if_pos (by omega),if_pos (by omega),rdS,rdS,if_pos (tlb.2 c),wsucc (by omega)])
      (fun k i _ hi c=>by
        simp only [laws_eqStringS.l0]
        rw [if_pos (by omega),if_pos (by omega),if_pos (by omega),rdS,rdS,if_neg (fun e=>c (tlb.1 e))]) k (by omega),Bool.and_true]
  · rw [if_neg (by omega),dec_false (fun e=>h (by rw [e]))]
theorem node_ext (a b:S32):a=b ↔ a.f0=b.f0∧a.f1=b.f1∧a.f2=b.f2∧a.f3=b.f3∧a.f4=b.f4:=by
  constructor
  · rintro rfl; exact ⟨rfl,rfl,rfl,rfl,rfl⟩
  · obtain ⟨a0,a1,a2,a3,a4⟩:=a; obtain ⟨b0,b1,b2,b3,b4⟩:=b; rintro ⟨rfl,rfl,rfl,rfl,rfl⟩; rfl
theorem eqNode_eq:∀ (n:Nat) (a b:S32),rnd a≤n→n≤1099511627776→∀ k,n<k→laws_eqNode.f k a.f0 a.f1 a.f2 a.f3 a.f4 b.f0 b.f1 b.f2 b.f3 b.f4=some (dec (a=b)):=by
  intro n
  induction n using Nat.strongRecOn with
  | _ n ih =>
    intro a b hn hN k hk
    have ra:=rnd_eq a
    obtain ⟨k,rfl⟩:∃ m,k=m + 2:=⟨k - 2,by omega⟩
    have kids:laws_eqNodeS.f (k + 1) a.f4 b.f4=some (dec (a.f4=b.f4)):=by
      simp only [laws_eqNodeS.f]
      by_cases h:a.f4.length=b.f4.length
      · have kid:∀ k (i:Nat) (hi:i<a.f4.length),(a.f4.map rnd).sum + 1≤k→laws_eqNode.f k (a.f4.getD i z32).f0 (a.f4.getD i z32).f1 (a.f4.getD i z32).f2 (a.f4.getD i z32).f3 (a.f4.getD i z32).f4 (b.f4.getD i z32).f0 (b.f4.getD i z32).f1 (b.f4.getD i z32).f2 (b.f4.getD i z32).f3 (b.f4.getD i z32).f4=some (dec (a.f4.getD i z32=b.f4.getD i z32)):=by
          intro k i hi hk
          have hm:a.f4.getD i z32 ∈ a.f4:=by rw [getD_at' _ _ _ hi]; exact List.getElem_mem hi
          have:=rnd_kid hm
          have:=mem_le_sum rnd a.f4 _ hm
          exact ih (rnd (a.f4.getD i z32)) (by omega) _ _ (Nat.le_refl _) (by omega) k (by omega)
        rw [if_pos (by omega), scanEq (g := fun k i => laws_eqNodeS.l0 k a.f4 b.f4 i) (K := (a.f4.map rnd).sum + 1) (e := true) z32 a.f4 b.f4 h (fun k _ => by simp only [laws_eqNodeS.l0]; rw [if_neg (by omega)])
          (fun k i hk hi c=>by
            simp only [laws_eqNodeS.l0]
            rw [if_pos (by omega),if_pos (by omega),if_pos (by omega),rdT,rdT,kid k i hi hk,Option.bind_some,dec_true c,if_pos rfl,wsucc (by omega)])
          (fun k i hk hi c=>by
            simp only [laws_eqNodeS.l0]
            rw [if_pos (by omega),if_pos (by omega),if_pos (by omega),rdT,rdT,kid k i hi hk,Option.bind_some,dec_false c,if_neg (by decide)]) k (by omega),Bool.and_true]
      · rw [if_neg (by omega),dec_false (fun e=>h (by rw [e]))]
    simp only [laws_eqNode.f]
    rw [eqStrings_eq _ _ (by omega) _ (by omega),kids]
    simp only [Option.bind_some,tlb,dec_iff]
    rw [dec_cong (node_ext a b)]
    by_cases c0:a.f0=b.f0
    · by_cases c1 : a.f1 = b.f1
      · by_cases c2 : a.f2 = b.f2
        · by_cases c3 : a.f3 = b.f3
          · by_cases c4 : a.f4 = b.f4
            · rw [if_pos c0,if_pos c1,if_pos c2,if_pos c3,if_pos (dec_iff.2 c4),dec_true ⟨c0,c1,c2,c3,c4⟩]
            · rw [if_pos c0,if_pos c1,if_pos c2,if_pos c3,if_neg (fun e=>c4 (dec_iff.1 e)),dec_false (fun e=>c4 e.2.2.2.2)]
          · rw [if_pos c0,if_pos c1,if_pos c2,if_neg c3,dec_false (fun e=>c3 e.2.2.2.1)]
        · rw [if_pos c0,if_pos c1,if_neg c2,dec_false (fun e=>c2 e.2.2.1)]
      · rw [if_pos c0,if_neg c1,dec_false (fun e=>c1 e.2.1)]
    · rw [if_neg c0,dec_false (fun e=>c0 e.1)]
end Go.Proofs.YtdlhidjphaaklaaGreat.M
end
section
namespace Go.Proofs.YtdlhidjphaaklaaGreat.H
open Go.RowKit Go.Proofs.YtdlhidjphaaklaaGreat.P Go.Proofs.YtdlhidjphaaklaaGreatW.PrintWords Go.Proofs.YtdlhidjphaaklaaGreat.M
theorem rnd_cntK (x:S32):rnd x + 1≤2*cntK x:=by
  refine tree_ind (P:=fun x=>rnd x + 1≤2*cntK x) (fun x ih=>?_) x
  rw [rnd_eq,cntK_eq]
  have:∀ l:List S32,(∀ y ∈ l,rnd y + 1≤2*cntK y)→(l.map rnd).sum + l.length≤2*(l.map cntK).sum:=by
    intro l
    induction l with
    | nil=>intro _; simp
    | cons y ys ihl =>
      intro h
      have h1:=h y (by simp)
      have h2:=ihl (fun z hz=>h z (by simp [hz]))
      simp only [List.map_cons,List.sum_cons,List.length_cons]
      omega
  have:=this x.f4 ih
  omega
theorem rnd_cnt (x:S32):rnd x≤2*cntTop x + 5:=by
  have h:=rnd_cntK x
  rw [cntK_eq] at h
  unfold cntTop
  omega
theorem eq_ev (x:S32) (h:cntTop x≤549755813880):Ev (fun k=>laws_eqNode.f k x.f0 x.f1 x.f2 x.f3 x.f4 x.f0 x.f1 x.f2 x.f3 x.f4) true:=by
  have h1:=rnd_cnt x
  have:=Ev.past (fun k hk=>eqNode_eq (rnd x) x x (Nat.le_refl _) (by omega) k hk)
  rwa [dec_true rfl] at this
theorem eqN_calls (x:S32) (h:cntTop x≤549755813880) {w:World} {v3 v4 u3 u4:Value} (h1:Seen w v3 v4 x) (h2:Seen w u3 u4 x) :
    Calls Tryz.prog 13 #[.agg #[.int .i64 x.f0,.int .i64 x.f1,.string x.f2,v3,v4],.agg #[.int .i64 x.f0,.int .i64 x.f1,.string x.f2,u3,u4]] w fun e w'=>e=.returned (.bool true)∧Below w.heap.size w w':=by
  obtain ⟨A3,c3,A4,c4,rfl,rfl,g3,l3,g4,l4⟩:=h1
  obtain ⟨B3,d3,B4,d4,rfl,rfl,p3,q3,p4,q4⟩:=h2
  obtain ⟨k,hk⟩:=(eq_ev x h).rounds
  exact laws_eqNode.calls k _ _ _ _ _ _ _ _ _ _ _ _ _ _ _ _ _ _ true w g3 l3 g4 l4 p3 q3 p4 q4 hk
theorem markTop_calls (x:S32) (n:Nat) (hn:cntTop x=n) {v3 v4:Value} {fss:List (List Nat)} {w:World} (h:Top w v3 v4 x fss) (hl:n≤549755813880) :
    Calls Tryz.prog 14 #[.agg #[.int .i64 x.f0,.int .i64 x.f1,.string x.f2,v3,v4],.int .i64 1] w fun e w'=>∃ x':S32,e=.returned (.int .i64 (1 + (n:Nat)))∧cntTop x'=n∧MkTop x' 1∧Top w' v3 v4 x' fss∧Chg (fun k=>k ∈ topFp v3 v4 fss ∨ w.heap.size≤k) w w' :=
  (mark_calls x v3 v4 fss 1 w h (by decide) (by omega)).mono fun e w' ⟨x',he,_,_,_,h1,h2,h3,h4⟩=>⟨x',by rw [← hn]; exact he,h1.trans hn,h2,h3,h4⟩
theorem held_calls (x:S32) {w:World} {v3 v4:Value} {fss:List (List Nat)} (n:Nat) (h:Top w v3 v4 x fss) (hm:MkTop x 1) (hn:cntTop x=n) (hl:n≤549755813880) :
    Calls Tryz.prog 23 #[.agg #[.int .i64 x.f0,.int .i64 x.f1,.string x.f2,v3,v4],.int .i64 1] w fun e w'=>e=.returned (.int .i64 (1 + (n:Nat)))∧Below w.heap.size w w':=by
  obtain ⟨A3,c3,A4,c4,rfl,rfl,g3,l3,g4,l4⟩:=Seen.of_top h
  obtain ⟨k,hk⟩:=(held_ev x 1 hm (by omega) (by omega) (by omega)).rounds
  rw [hn] at hk
  exact laws_heldNode.calls k _ _ _ _ _ _ _ _ _ _ _ w g3 l3 g4 l4 hk
theorem heldAny_calls (a b:Int) (s:ByteArray) (x:S32) {w:World} {v3 v4:Value} {fss:List (List Nat)} (n:Nat) (h:Top w v3 v4 x fss) (hm:MkTop x 1) (hn:cntTop x=n) (hl:n≤549755813880) :
    Calls Tryz.prog 23 #[.agg #[.int .i64 a,.int .i64 b,.string s,v3,v4],.int .i64 1] w fun e w'=>e=.returned (.int .i64 (1 + (n:Nat)))∧Below w.heap.size w w' :=
  held_calls ⟨a,b,s,x.f3,x.f4⟩ n h hm hn hl
theorem own_raise {w:World} {b e s n:Nat} {v:Value} {xs:List Value} (h:w.ownsRow 0 e s v n xs) (hb:∀ k,v.ownBlock=some k→b≤k):w.ownsRow b e s v n xs:=by
  obtain ⟨hl,h2⟩:=h
  rcases h2 with h0 | ⟨g,cap,cur,rfl,_,r⟩
  · exact ⟨hl,.inl h0⟩
  · exact ⟨hl,.inr ⟨g,cap,cur,rfl,hb g rfl,r⟩⟩
theorem SRow_R {w:World} {v:Value} {xs:List ByteArray} {base:Nat} {ok:Nat→Prop} (h:SRow w v xs) (hk:∀ k,v.ownBlock=some k→base≤k∧ok k):Kd.R Kd.string 9 w base ok v xs:=by
  refine ⟨fun k e=>(hk k e).2,xs.map Value.string,own_raise h (fun k e=>(hk k e).1),by simp [Kd.string,Kd.scalar],fun j x hj=>?_⟩
  obtain ⟨hj2,rfl⟩:=List.getElem?_eq_some_iff.1 hj
  show (((xs.map Value.string).drop (j*1)).take 1)=[Value.string xs[j]]
  rw [Nat.mul_one,List.drop_eq_getElem_cons (by simpa using hj2),List.getElem_map]
  rfl
theorem OT_M (x:S32):∀ (w:World) (base:Nat) (ok:Nat→Prop) (cs:List Value) (fp:List Nat),OT w x cs fp→fp.Nodup→(∀ k ∈ fp,base≤k∧ok k)→k32.M w base ok x cs:=by
  refine tree_ind (P:=fun x=>∀ (w:World) (base:Nat) (ok:Nat→Prop) (cs:List Value) (fp:List Nat),OT w x cs fp→fp.Nodup→(∀ k ∈ fp,base≤k∧ok k)→k32.M w base ok x cs) (fun x ih w base ok cs fp h hn hk=>?_) x
  rw [OT_iff] at h
  obtain ⟨v3,v4,fss,rfl,h2,⟨inner,h3,h4,h5⟩,rfl⟩:=h
  have hn4:=(List.nodup_append.1 hn).2.1
  have hk4:∀ k,v4.ownBlock=some k→base≤k∧ok k:=fun k e=>hk k (by simp [e])
  refine k32_mkM w base ok x (SRow_R h2 (fun k e=>hk k (by simp [e]))) ⟨fun k e=>(hk4 k e).2,inner,own_raise h3 (fun k e=>(hk4 k e).1),h3.1,fun j y hj=>?_⟩
  obtain ⟨hj2,rfl⟩:=List.getElem?_eq_some_iff.1 hj
  have hf:fss[j]?=some fss[j]:=List.getElem?_eq_getElem (by omega)
  refine ih _ (List.getElem_mem hj2) w base _ _ fss[j] (h5 j hj2 _ hf) (nd_flat (List.nodup_append.1 hn4).2.1 hf) (fun k hkm=>?_)
  have hm:k ∈ v3.ownBlock.toList ++ (v4.ownBlock.toList ++ fss.flatten):=by
    simp only [List.mem_append]
    exact .inr (.inr (mem_flat hf hkm))
  exact ⟨(hk k hm).1,(hk k hm).2,fun e=>(List.nodup_append.1 hn4).2.2 k (by simp [← e]) k (mem_flat hf hkm) rfl⟩
theorem ORow_R {w:World} {v:Value} {kids:List S32} {fss:List (List Nat)} {base:Nat} {ok:Nat→Prop} (h:ORow w v kids fss) (hn:(v.ownBlock.toList ++ fss.flatten).Nodup) (hk:∀ k ∈ v.ownBlock.toList ++ fss.flatten,base≤k∧ok k):Kd.R k32 32 w base ok v kids:=by
  obtain ⟨inner,h3,h4,h5⟩:=h
  have hk4:∀ k,v.ownBlock=some k→base≤k∧ok k:=fun k e=>hk k (by simp [e])
  refine ⟨fun k e=>(hk4 k e).2,inner,own_raise h3 (fun k e=>(hk4 k e).1),h3.1,fun j y hj=>?_⟩
  obtain ⟨hj2,rfl⟩:=List.getElem?_eq_some_iff.1 hj
  have hf:fss[j]?=some fss[j]:=List.getElem?_eq_getElem (by omega)
  refine OT_M _ w base _ _ fss[j] (h5 j hj2 _ hf) (nd_flat (List.nodup_append.1 hn).2.1 hf) (fun k hkm=>?_)
  have hm:k ∈ v.ownBlock.toList ++ fss.flatten:=List.mem_append.2 (.inr (mem_flat hf hkm))
  exact ⟨(hk k hm).1,(hk k hm).2,fun e=>(List.nodup_append.1 hn).2.2 k (by simp [← e]) k (mem_flat hf hkm) rfl⟩
theorem Made_R {w w':World} {x:S32} {e:Ending} (h:Made w x e w'):∃ v3_ v4_:Value,e=.returned (.agg #[.int .i64 x.f0,.int .i64 x.f1,.string x.f2,v3_,v4_])∧Kd.R Kd.string 9 w' w.heap.size (fun _=>True) v3_ x.f3∧Kd.R k32 32 w' w.heap.size (fun k_=>some k_ ≠ (v3_:Value).ownBlock) v4_ x.f4∧Below w.heap.size w w':=by
  obtain ⟨v3,v4,fss,rfl,ht,hf,hb⟩:=h
  obtain ⟨_,hn4,hn34⟩:=List.nodup_append.1 ht.2.2
  refine ⟨v3,v4,rfl,SRow_R ht.1 (fun k e=>⟨hf k (by simp [topFp,e]),trivial⟩),ORow_R ht.2.1 hn4 (fun k hk=>⟨hf k (List.mem_append.2 (.inr hk)),fun e=>hn34 k (by simp [← e]) k hk rfl⟩),hb⟩
end Go.Proofs.YtdlhidjphaaklaaGreat.H
end
section
namespace Go.Proofs.YtdlhidjphaaklaaGreat.V
open Go Go.RowKit Go.Proofs.YtdlhidjphaaklaaGreat Go.Proofs.YtdlhidjphaaklaaGreat.P Go.Proofs.YtdlhidjphaaklaaGreatW
set_option maxRecDepth 100000
attribute [local irreducible] thenQ blockQ AWP AOps FinQ Draw One PrintWords.bt
set_option maxHeartbeats 4000000 in
theorem spec_l3At_fn {k:Nat} {a0_0:Int} {a0_1:Int} {a0_2:ByteArray} {l0_3:List ByteArray} {l0_4:List (S32)} {a1:ByteArray} {r:Int} (H:spec_l3At.f k a0_0 a0_1 a0_2 l0_3 l0_4 a1=some r):Fn Tryz.prog 114 [.agg [.val (.int .i64 a0_0),.val (.int .i64 a0_1),.val (.string a0_2),.row (l0_3.map (cS)) .no,.row (l0_4.map (c32)) .no],.val (.string a1)] [] (.val (.int .i64 r)) []:=by
 refine w_fn (n:=33) Tryz.func114 rfl rfl rfl rfl rfl ?_
 unfold spec_l3At.f at H
 repeat' first
  |exact WB.nil _
  |refine WB.cons ?_ ?_
  |exact WL.nil
  |refine WL.cons ?_ ?_
  |exact W1.same _
  |exact W1.no _ _
  |exact W1.any _ rfl
  |exact sub3_nil
  |refine sub3_cons rfl ?_ ?_
  |rfl
  |(refine one_id ?_; first
   |refine s_move rfl ?_
   |refine s_load rfl rfl rfl ?_
   |refine s_fldb rfl ?_
   |refine s_add64 rfl rfl ?_
   |refine s_bin rfl rfl rfl ?_
   |refine s_assign rfl ?_
   |refine s_pick rfl rfl ?_
   |refine s_loadr rfl rfl rfl ?_
   |refine s_lenm rfl ?_
   |refine s_ixS rfl rfl ‹_› ‹_› rfl ?_
   |(refine s_ixS rfl rfl ?_ ?_ rfl ?_; (focus (first|assumption|decide|omega)); (focus (first|assumption|decide|omega)))
   )
  |(refine q_id ?_; first
   |refine q_box rfl rfl rfl rfl rfl rfl rfl ?_
   |refine q_one rfl rfl rfl rfl rfl ?_
   |refine q_nil rfl ?_
   |(refine q_run rfl rfl rfl rfl ?_ rfl rfl ?_; focus (first|with_reducible rfl|(simp only [Bool.not_true,Bool.not_false]; done)))
   |(refine q_skip rfl rfl rfl rfl ?_ rfl rfl ?_; focus (first|with_reducible rfl|(simp only [Bool.not_true,Bool.not_false]; done)))
   )
  |(refine w_id ?_; first
   |refine w_seq rfl ?_
   |refine w_region rfl ?_
   |refine w_block rfl ?_
   |refine w_ret rfl ?_
   |refine w_skip rfl ?_
   |refine w_exit rfl ?_
   |(refine w_true rfl rfl ?_ ?_; focus (first|with_reducible rfl|(simp only [Bool.not_true,Bool.not_false]; done)))
   |(refine w_false rfl rfl ?_ ?_; focus (first|with_reducible rfl|(simp only [Bool.not_true,Bool.not_false]; done)))
   |(refine w_loop3 (fun (v:(ByteArray) × (Int) × (Int) × (Int) × (ByteArray) × (List ByteArray) × (List (S32)))=>⟨33,[(1,.val (.string v.1)),(5,.val (.int .i64 v.2.1)),(2,.ptr 0 0)],[[.val (.int .i64 v.2.2.1),.val (.int .i64 v.2.2.2.1),.val (.string v.2.2.2.2.1),.row (v.2.2.2.2.2.1.map cS) .no,.row (v.2.2.2.2.2.2.map c32) .no]],[]⟩) (fun k v=>spec_l3At.l0 k v.1 v.2.1 v.2.2.1 v.2.2.2.1 v.2.2.2.2.1 v.2.2.2.2.2.1 v.2.2.2.2.2.2) _ (_,_,_,_,_,_,_) rfl (fun _=>rfl) (fun _ _=>rfl) ⟨rfl,?_,?_,rfl,?_,rfl,rfl⟩ rfl H ?_; rotate_right; clear H; rintro k ⟨x1,x5,x133000,x133001,x133002,x133003,x133004⟩ hk H; simp only [spec_l3At.l0] at H; dsimp only)
   )
  |(refine t_id ?_; first
   |refine t_norm ?_
   |refine t_exit ?_
   |refine t_ret ?_
   )
  |(refine b_id ?_; first
   |refine b_here ?_
   |refine b_norm ?_
   |refine b_ret ?_
   )
  |(simp (disch:=assumption) only [decide_eq_true,decide_eq_false])
  |(refine ⟨_,(_,_,_,_,_,_,_),?_,?_,H⟩; (focus omega); refine ⟨rfl,?_,?_,rfl,?_,rfl,rfl⟩)
  |(replace H:=(id H:spec_l3At.j1 k _ _ _ _ _ _ _ _=_); cases k; (focus (exfalso; revert H; simp [spec_l3At.j1]; done)); rename_i k; unfold spec_l3At.j1 at H; try dsimp only at H)
  |(obtain rfl:=Option.some.inj H)
  |exact fq1b (.inr rfl) rfl (by first|exact res_tmp rfl|exact res_cell rfl rfl rfl) rfl rfl rfl (.inl rfl)
  |exact fq1b (.inr rfl) rfl (by first|exact res_tmp rfl|exact res_cell rfl rfl rfl) rfl rfl rfl (.inr ⟨_,_,rfl,by decide⟩)
  |exact W1.same _
  |exact W1.no _ _
  |exact W1.any _ rfl
  |exact sub3_nil
  |(refine sub3_cons rfl ?_ ?_)
  |(simp only [lit_list,wrapK_i64,wrapK_i32,wrapK_u8,wrap64_u8,Int.reduceToNat,Int.toNat_natCast])
  |(simp only [List.map_append,List.map_cons,List.map_nil,Int.zero_sub,wrapK_u8,wrap64_u8,L25_eq,L32_eq,c25_eq,c32_eq]; first|exact W1.same _|exact W1.no _ _|exact W1.any _ rfl)
  |(simp only [List.length_append,List.length_map,List.length_cons,List.length_nil]; rfl)
  |(simp (disch:=assumption) only [if_pos,if_neg] at H)
  |(simp only [Option.bind_some] at H)
  |(simp only [beq_dec,bne_dec,decide_eq_true_eq] at H)
  |(have hh:=ite_none_ H; clear H; obtain ⟨hc,H⟩:=hh)
  |(have hh:=ite_none2_ H; clear H; obtain ⟨hc,H⟩:=hh)
  |(refine (ite_some_ H).elim (fun hh=>?_) (fun hh=>?_)<;>clear H<;>obtain ⟨hc,H⟩:=hh<;>first|(cases H; done)|(cases hc; done)|(exact absurd rfl hc)|(subst hc; done)|rw [decide_eq_true hc]|rw [decide_eq_false hc]|rw [@decide_eq_true _ (_) hc]|rw [@decide_eq_false _ (_) hc]|subst hc|(obtain rfl:=Bool.eq_false_iff.2 hc)|rw [hc]|rw [Bool.eq_false_iff.2 hc])
  |(simp only [bne_dec,beq_dec])
end Go.Proofs.YtdlhidjphaaklaaGreat.V
end
section
namespace Go.Proofs.YtdlhidjphaaklaaGreat.P
open Go Go.RowKit Go.Proofs.YtdlhidjphaaklaaGreat Go.Proofs.YtdlhidjphaaklaaGreatW Go.Proofs.YtdlhidjphaaklaaGreatW.PrintWords
theorem spec_l3At.calls (k:Nat) (a0_0:Int) (a0_1:Int) (a0_2:ByteArray) (A0_3:Option Addr) (c0_3:Nat) (l0_3:List ByteArray) (A0_4:Option Addr) (c0_4:Nat) (l0_4:List (S32)) (a1:ByteArray) (r:Int) (w:World) (hr0_3:Kd.C Kd.string w A0_3 l0_3.length l0_3) (hc0_3:l0_3.length≤c0_3) (hr0_4:Kd.C k32 w A0_4 l0_4.length l0_4) (hc0_4:l0_4.length≤c0_4) (h:spec_l3At.f k a0_0 a0_1 a0_2 l0_3 l0_4 a1=some r):Calls Tryz.prog 114 #[.agg #[.int .i64 a0_0,.int .i64 a0_1,.string a0_2,.slice A0_3 l0_3.length c0_3,.slice A0_4 l0_4.length c0_4],.string a1] w fun e w'=>e=.returned (.int .i64 r)∧Below w.heap.size w w':=by
 refine (V.fn_calls (V.spec_l3At_fn h) (vs:=[.agg #[.int .i64 a0_0,.int .i64 a0_1,.string a0_2,.slice A0_3 l0_3.length c0_3,.slice A0_4 l0_4.length c0_4],.string a1]) (V.reps_cons_mk (V.rep_agg_mk (V.reps_cons_mk (V.Rep.val _ rfl) (V.reps_cons_mk (V.Rep.val _ rfl) (V.reps_cons_mk (V.Rep.val _ rfl) (V.reps_cons_mk (V.row_to [] (by decide) (V.ka_string).len (V.ka_string).fl (fun x _ cs h=>(V.ka_string).fwd [] h) hr0_3 hc0_3) (V.reps_cons_mk (V.row_to [] (by decide) (V.ka32).len (V.ka32).fl (fun x _ cs h=>(V.ka32).fwd [] h) hr0_4 hc0_4) V.reps_nil_mk))))) rfl) (V.reps_cons_mk (V.Rep.val _ rfl) V.reps_nil_mk))).mono ?_
 rintro e w' ⟨v,F,gs,rfl,hr,hb⟩
 obtain rfl:=(V.rep_val hr).1
 exact ⟨rfl,hb⟩
end Go.Proofs.YtdlhidjphaaklaaGreat.P
end
section
namespace Go.Proofs.YtdlhidjphaaklaaGreat.H
open Go.RowKit Go.Proofs.YtdlhidjphaaklaaGreat.P Go.Proofs.YtdlhidjphaaklaaGreatW.PrintWords Go.Proofs.YtdlhidjphaaklaaGreat.M
noncomputable def kInt (l:List ByteArray) (x:ByteArray):Int:=match kAt l x with | some i=>(i:Int) | none => -1
theorem idx_calls (A:Option Addr) (c:Nat) (l:List ByteArray) (x:ByteArray) (w:World) (hr:Kd.C Kd.string w A l.length l) :
    Calls Tryz.prog 126 #[.slice A l.length c,.string x] w fun e w'=>e=.returned (.int .i64 (kInt l x))∧w'=w:=by
  rcases Nat.eq_zero_or_pos l.length with h0 | h0
  · obtain rfl : l = [] := List.eq_nil_of_length_eq_zero h0
    refine (Tryz.slices_Index_string_empty A c x w).mono ?_
    rintro e w' ⟨rfl,rfl⟩
    have e:kAt [] x=none:=kAt_miss (fun j hj=>by simp at hj)
    refine ⟨?_,rfl⟩
    unfold kInt
    rw [e]
    rfl
  · obtain ⟨b, off, rfl, hg⟩ := C_cells h0 hr
    refine (Tryz.slices_Index_string b off l.length c l x w (Nat.le_refl _) hr.2.1 hg).mono ?_
    rintro e w' ⟨rfl,rfl⟩
    refine ⟨?_,rfl⟩
    unfold kInt
    cases e:kAt l x with
    | none=>rw [Lib.idxOfS_miss l l.length x (kAt_none e)]
    | some i =>
      have h:=kAt_some e
      rw [Lib.idxOfS_hit l l.length i x h.1 (Nat.le_refl _) h.2.1 h.2.2]
theorem below_cell {B:Nat} {w w1:World} {a:Addr} {v:Value} (hb:Below B w w1) (hB:a.block<B) (h:w.cell? a=some v):w1.cell? a=some v:=(World.cell?_of_block (hb.block _ hB)).trans h
theorem Top_zero (w:World):Top w (.slice none 0 0) (.slice none 0 0) node0 [] :=
  ⟨World.ownsRow_nil _ _ _ _,⟨[],World.ownsRow_nil _ _ _ _,rfl,fun i h=>absurd h (Nat.not_lt_zero _)⟩,by simp [Value.ownBlock]⟩
def SrcAt (w:World) (A:Option Addr) (m size:Nat) (news:List Value):Prop:=news.length=m*size∧(∀ u ∈ news,u.oneCell'=true)∧(0<m→∃ ad:Addr,A=some ad∧∀ j u,news[j]?=some u→w.cell? (ad.add j)=some u)
theorem SrcAt.below {w w1:World} {A:Option Addr} {m size:Nat} {news:List Value} (h:SrcAt w A m size news) (hb:Below w.heap.size w w1):SrcAt w1 A m size news :=
  ⟨h.1,h.2.1,fun h0=>by
    obtain ⟨ad,e,hc⟩:=h.2.2 h0
    exact ⟨ad,e,fun j u hj=>(hb.cell (World.block_lt_of_cell? _ _ (hc j u hj))).trans (hc j u hj)⟩⟩
theorem run_append_rd {P : Program} (w : World) (base : Nat) (t ty e : TypeId) (i : TypeInfo) (z : Value) (size bytes : Nat) (ht : P.underlying t = some (.slice e)) (hi : P.info? e = some i) (hz : i.zero = some z)
    (hsize:i.size=size) (hby:i.bytes=bytes) (hzs:z.cells.size=size) (hsz:0<size) (v:Value) (n:Nat) (xs:List Value) (hown:w.ownsRow base e size v n xs)
    (A:Option Addr) (m c:Nat) (news:List Value) (hs:SrcAt w A m size news) (h63:n + m≤maxLen) (hbytes:(n + m)*bytes≤140737488355328) (hbase:base≤w.heap.size) :
    ∃ v' w',(Builtin.append_ #[t,t] ty #[v,.slice A m c]).run P w=.ok v' w'∧w'.ownsRow base e size v' (n + m) (xs ++ news)∧w.grownBy w' v.ownBlock∧(v'.ownBlock=v.ownBlock ∨ v'.ownBlock=some w.heap.size):=by
  obtain ⟨hl,h1,hc⟩:=hs
  rcases Nat.eq_zero_or_pos m with h0 | h0
  · subst h0
    have hn:news=[]:=List.eq_nil_of_length_eq_zero (by simpa using hl)
    subst hn
    cases A with
    | some ad =>
      obtain ⟨v',w',hr,h2,h3,_,h5⟩:=run_append_own_at (P:=P) w base t ty e i z size bytes ht hi hz hsize hby hzs hsz v n xs hown ad 0 c [] (by simp) (fun j u hj=>by simp at hj) (fun u hu=>by simp at hu) h63 hbytes hbase
      exact ⟨v',w',hr,h2,h3,h5⟩
    | none =>
      refine ⟨v,w,?_,by simpa using hown,⟨rfl,rfl,rfl,Nat.le_refl _,fun _ _ _=>rfl⟩,.inl rfl⟩
      rcases hown.2 with ⟨rfl,rfl⟩ | ⟨g,cap,cur,rfl,_,_,q1,_⟩
      · simp [Builtin.append_,run_underlying ht,sizeOf,typeInfo,hi,Builtin.lenOf,Builtin.firstCells]
      · simp [Builtin.append_,run_underlying ht,sizeOf,typeInfo,hi,Builtin.lenOf,Builtin.firstCells,q1,storeCells]
  · obtain ⟨ad, rfl, hcc⟩ := hc h0
    obtain ⟨v',w',hr,h2,h3,_,h5⟩:=run_append_own_at (P:=P) w base t ty e i z size bytes ht hi hz hsize hby hzs hsz v n xs hown ad m c news hl hcc h1 h63 hbytes hbase
    exact ⟨v',w',hr,h2,h3,h5⟩
section
variable {P:Program} {ops:Array Oper} {rest:List Oper} {o:Oper} {a:Act} {Q:Exit→Act→World→Prop} {K:Act→World→Prop} {E:Prop}
theorem step_append_run {w : World} (hg : o.guard = none) (d x : Operand) (dT sT : TypeId) (hop : o.op = .call { callee := .builtin .append, args := #[d, x], argTypes := #[dT, sT] })
    (v u:Value) (hd:a.eval d=v) (hx:a.eval x=u) {v':Value} {w':World} (hr:(Builtin.append_ #[dT,sT] o.type #[v,u]).run P w=.ok v' w') (hK:K (a.put o.dst v') w') :
    if Region.wanted o (yielded ops a.tmps)=true then Oper.wp P o a w K Q else E:=by
  have hw:Region.wanted o (yielded ops a.tmps)=true:=by simp [Region.wanted,hg]
  rw [if_pos hw]
  unfold Oper.wp
  simp [execOp,hop,resolve,invoke,builtin,hd,hx,hr,Result.andThen]
  exact hK
theorem step_append_rd {w : World} (hg : o.guard = none) (d x : Operand) (t e : TypeId) (hop : o.op = .call { callee := .builtin .append, args := #[d, x], argTypes := #[t, t] })
    (base size bytes:Nat) (z:Value) (ht:P.underlying t=some (.slice e)) (hinfo:(P.info? e).map (fun i=>(i.zero,i.size,i.bytes))=some (some z,size,bytes)) (hzs:z.cells.size=size) (hsz:0<size)
    (v:Value) (n:Nat) (xs:List Value) (A:Option Addr) (m c:Nat) (news:List Value) (hd:a.eval d=v) (hx:a.eval x=.slice A m c) (hown:w.ownsRow base e size v n xs) (hs:SrcAt w A m size news) (h63:n + m≤maxLen) (hbytes:(n + m)*bytes≤140737488355328) (hbase:base≤w.heap.size)
    (h:∀ v' w',w'.ownsRow base e size v' (n + m) (xs ++ news)→w.grownBy w' v.ownBlock→(v'.ownBlock=v.ownBlock ∨ v'.ownBlock=some w.heap.size)→K (a.put o.dst v') w') :
    if Region.wanted o (yielded ops a.tmps)=true then Oper.wp P o a w K Q else E:=by
  obtain ⟨i0,hi,hzz⟩:=Option.map_eq_some_iff.1 hinfo
  simp only [Prod.mk.injEq] at hzz
  obtain ⟨hz0,hz1,hz2⟩:=hzz
  obtain ⟨v',w',hr,h2,h3,h5⟩:=run_append_rd (P:=P) w base t o.type e i0 z size bytes ht hi hz0 hz1 hz2 hzs hsz v n xs hown A m c news hs h63 hbytes hbase
  exact step_append_run hg d x t t hop v _ hd hx hr (h v' w' h2 h3 h5)
theorem list_append_rd {w : World} (hgd : o.guard = none) (d x : Operand) (t e : TypeId) (hop : o.op = .call { callee := .builtin .append, args := #[d, x], argTypes := #[t, t] })
    (base size bytes:Nat) (z:Value) (ht:P.underlying t=some (.slice e)) (hinfo:(P.info? e).map (fun i=>(i.zero,i.size,i.bytes))=some (some z,size,bytes)) (hzs:z.cells.size=size) (hsz:0<size)
    (v:Value) (n:Nat) (xs:List Value) (A:Option Addr) (m c:Nat) (news:List Value) (hd:a.eval d=v) (hx:a.eval x=.slice A m c) (hown:w.ownsRow base e size v n xs) (hs:SrcAt w A m size news) (h63:n + m≤maxLen) (hbytes:(n + m)*bytes≤140737488355328) (hbase:base≤w.heap.size)
    (h:∀ v' w',w'.ownsRow base e size v' (n + m) (xs ++ news)→w.grownBy w' v.ownBlock→(v'.ownBlock=v.ownBlock ∨ v'.ownBlock=some w.heap.size)→wpList P ops Q rest (a.put o.dst v') w') :
    wpList P ops Q (o :: rest) a w:=by
  obtain ⟨i0,hi,hzz⟩:=Option.map_eq_some_iff.1 hinfo
  simp only [Prod.mk.injEq] at hzz
  obtain ⟨hz0,hz1,hz2⟩:=hzz
  obtain ⟨v',w',hr,h2,h3,h5⟩:=run_append_rd (P:=P) w base t o.type e i0 z size bytes ht hi hz0 hz1 hz2 hzs hsz v n xs hown A m c news hs h63 hbytes hbase
  exact Lib.wpList_append_run w hgd d x t t hop v _ hd hx v' w' hr (h v' w' h2 h3 h5)
end
theorem Src_box (W:World) (ys:List Value) (T:TypeId) (s:Nat) (hl:ys.length=s) (h1:∀ u ∈ ys,u.oneCell'=true):SrcAt (W.alloc (.cells ys.toArray T (0,0))) (some ⟨W.heap.size,0,none⟩) 1 s ys :=
  ⟨by rw [hl]; omega,h1,fun _=>⟨_,rfl,fun j u hj=>by rw [Addr.add_lit,Nat.zero_add,blk_cell (heap_alloc_new W _)]; simpa using hj⟩⟩
theorem Src_head {w:World} {b e s n m:Nat} {A:Option Addr} {c:Nat} {xs:List Value} (h:w.ownsRow b e s (.slice A n c) n xs) (hm:m≤n) (h1:∀ u ∈ xs,u.oneCell'=true):SrcAt w A m s (xs.take (m*s)):=by
  have hms:m*s≤n*s:=Nat.mul_le_mul_right _ hm
  refine ⟨by rw [List.length_take,h.1]; omega,fun u hu=>h1 u (List.mem_of_mem_take hu),fun h0=>?_⟩
  obtain ⟨g,cap,e⟩:=own_form h (by omega)
  injection e with e1 _ e3
  subst e1; subst e3
  refine ⟨_,rfl,fun j u hj=>?_⟩
  rw [List.getElem?_take] at hj
  split at hj
  · rw [Addr.add_lit,Nat.zero_add]; exact own_cell h hj
  · cases hj
theorem Src_tail {w:World} {b e s n m:Nat} {A A':Option Addr} {c:Nat} {xs:List Value} (h:w.ownsRow b e s (.slice A n c) n xs) (hm:m≤n) (h1:∀ u ∈ xs,u.oneCell'=true) (hA:m<n→A'=A.map (·.add (m*s))):SrcAt w A' (n - m) s (xs.drop (m*s)):=by
  refine ⟨by rw [List.length_drop,h.1,Nat.sub_mul],fun u hu=>h1 u (List.mem_of_mem_drop hu),fun h0=>?_⟩
  obtain ⟨g,cap,e⟩:=own_form h (by omega)
  injection e with e1 _ e3
  subst e1; subst e3
  refine ⟨_,hA (by omega),fun j u hj=>?_⟩
  rw [List.getElem?_drop] at hj
  show w.cell? (((⟨g,0,none⟩:Addr).add (m*s)).add j)=some u
  rw [Addr.add_lit,Nat.zero_add,Addr.add_lit]
  exact own_cell h hj
theorem Src_texts {w:World} {A:Option Addr} {l:List ByteArray} (hr:Kd.C Kd.string w A l.length l):SrcAt w A l.length 1 (l.map Value.string):=by
  refine ⟨by simp,fun u hu=>by obtain ⟨x,_,rfl⟩:=List.mem_map.1 hu; rfl,fun h0=>?_⟩
  obtain ⟨b,off,rfl,hg⟩:=C_cells h0 hr
  refine ⟨_,rfl,fun j u hj=>?_⟩
  rw [List.getElem?_map] at hj
  obtain ⟨s,hs,rfl⟩:=Option.map_eq_some_iff.1 hj
  obtain ⟨hj2,e⟩:=List.getElem?_eq_some_iff.1 hs
  rw [Addr.add_lit,hg j hj2,getD_at _ _ hj2,e]
end Go.Proofs.YtdlhidjphaaklaaGreat.H
end
section
namespace Go.Proofs.YtdlhidjphaaklaaGreat.H
open Go.RowKit Go.Proofs.YtdlhidjphaaklaaGreat.P Go.Proofs.YtdlhidjphaaklaaGreatW.PrintWords Go.Proofs.YtdlhidjphaaklaaGreatW.PrintLast Go.Proofs.YtdlhidjphaaklaaGreat.M
def ToCopyS (x : S32) : Prop := ∀ (A3 A4 : Option Addr) (c3 c4 : Nat) (w : World), Kd.C Kd.string w A3 x.f3.length x.f3 → x.f3.length ≤ c3 → k32.C w A4 x.f4.length x.f4 → x.f4.length ≤ c4 →
    Calls Tryz.prog 113 #[.agg #[.int .i64 x.f0,.int .i64 x.f1,.string x.f2,.slice A3 x.f3.length c3,.slice A4 x.f4.length c4]] w fun e w'=>Made w x e w'
set_option maxHeartbeats 8000000 in
set_option maxRecDepth 100000 in
theorem copyS_of (x:S32) (hc:cntTop x≤1099511627776) (ih:∀ y ∈ x.f4,ToCopyS y):ToCopyS x:=by
  intro A3 A4 c3 c4 w g3 l3 g4 l4
  have hu:=Tryz.underlying32
  have mixed:Tryz.prog.follows .mixedOrders=true:=by kernel_rfl
  have hl3:x.f3.length≤1099511627776:=by unfold cntTop at hc; omega
  have hl4:x.f4.length≤1099511627776:=by have:=len_cnt x.f4; unfold cntTop at hc; omega
  have G3:=Lib.hid g3
  have G4:=Lib.hid g4
  have IH:=Lib.hid ih
  clear g3 g4 ih hc
  unfold Made
  go_enter Tryz.func113,Tryz.ntmps113
  go_wp2_with (first
    | ((with_reducible refine gate_dst (N:=1) rfl ?_); refine box_event rfl (N:=1) rfl (cs:=#[.int .i64 x.f0,.int .i64 x.f1,.string x.f2,.slice A3 x.f3.length c3,.slice A4 x.f4.length c4]) (t:=32) (by first | (go_simp; done) | (go_simp; rfl)) ?_; intro gb hgb wa bk hb; have HGB:=Lib.hid hgb; have BKa:=Lib.hid bk; have HBa:=Lib.hid hb; clear hgb bk hb)
    | ((with_reducible refine gate_dst (N:=2) rfl ?_); refine box_event rfl (N:=2) rfl (cs:=#[.int .i64 0,.int .i64 0,.string ⟨#[]⟩,.slice none 0 0,.slice none 0 0]) (t:=32) (by first | (go_simp; done) | (go_simp; rfl)) ?_; intro gr hgr wb bk hb; have HGR:=Lib.hid hgr; have RSb:=Lib.hid bk; have HBb:=Lib.hid (HBa.out.trans (hb.mono HBa.out.size)); have BKb:=Lib.hid (blk_below BKa.out hb); clear hgr bk hb))
  have hgb2:gb<wb.heap.size:=blk_lt BKb.out
  have SO:∀ W:World,Below wb.heap.size wb W→W.cell? ⟨gb,0,none⟩=some (.int .i64 x.f0)∧W.cell? ⟨gb,1,none⟩=some (.int .i64 x.f1)∧W.cell? ⟨gb,2,none⟩=some (.string x.f2)∧W.cell? ⟨gb,3,none⟩=some (.slice A3 x.f3.length c3)∧Below wb.heap.size wb W:=fun W hW=>by
    obtain ⟨y0,y1,y2,y3,_⟩:=cells5 (blk_below BKb.out hW)
    exact ⟨y0,y1,y2,y3,hW⟩
  have HSO:=Lib.hid SO
  have HSRC:Hid (∀ W:World,Below wb.heap.size wb W→SrcAt W A3 x.f3.length 1 (x.f3.map Value.string)):=fun W hW=>((Src_texts (Kd.C_below G3.out HBb.out)).below hW)
  clear SO
  go_region_held3 (fun W => W.cell? ⟨gb, 0, none⟩ = some (.int .i64 x.f0) ∧ W.cell? ⟨gb, 1, none⟩ = some (.int .i64 x.f1) ∧ W.cell? ⟨gb, 2, none⟩ = some (.string x.f2) ∧ W.cell? ⟨gb, 3, none⟩ = some (.slice A3 x.f3.length c3) ∧ Below wb.heap.size wb W)
    ((refine HSO.out _ ?_; first | exact HB1.out | exact below_alloc HB1.out _ | exact (((((HB1.out.setCell (by simp) _).setCell (by simp) _).setCell (by simp) _).setCell (by simp) _).setCell (by simp) _) | exact below_drew (Below.refl _ _) | exact below_alloc (by assumption:_∧_∧_∧_∧Below wb.heap.size wb _).2.2.2.2 _))
    ((refine step_append_rd rfl _ _ 22 9 rfl wb.heap.size 1 16 (.string ⟨#[]⟩) Tryz.underlying22 info9 rfl (by decide) _ 0 [] A3 x.f3.length c3 (x.f3.map Value.string) rfl rfl ?_ ?_ ?_ ?_ ?_ ?_; (focus (first | exact World.ownsRow_lit wb #[] 0 (Nat.le_refl _) (by decide) (by simp) | exact (World.ownsRow_lit wb #[] 0 (Nat.le_refl _) (by decide) (by simp)).alloc _ | (have h:=World.ownsRow_lit (base:=wb.heap.size) (e:=9) (size:=1) (wb.alloc (.cells #[.int .i64 0,.int .i64 0,.string ⟨#[]⟩,.slice none 0 0,.slice none 0 0] 32 (0,0))) #[] 0 (by simp) (by decide) (by simp); rw [World.size_alloc] at h; exact h))); (focus (exact HSRC.out _ (by assumption:_∧_∧_∧_∧Below wb.heap.size wb _).2.2.2.2)); (focus (unfold maxLen; omega)); (focus (omega)); (focus (exact ((by assumption:_∧_∧_∧_∧Below wb.heap.size wb _).2.2.2.2).size)); (intro v1 w1 ho hg hat; have HB1:=Lib.hid (Below.grown (by assumption:_∧_∧_∧_∧Below wb.heap.size wb _).2.2.2.2 hg ((by assumption:_∧_∧_∧_∧Below wb.heap.size wb _).2.2.2.2).size (fun k hk=>by have hq:=Option.some.inj hk; subst hq; simp)); have HS1:=Lib.hid (show SRow w1 v1 x.f3 from by rw [Nat.zero_add,List.nil_append] at ho; exact own_weaken ho (Nat.zero_le _)); have HF1:=Lib.hid (fun k hk=>own_base ho k hk); have HT1:=Lib.hid ho; (first | (have hzb:w1.heap[wb.heap.size + 1]?=some (.cells #[.int .i64 0,.int .i64 0,.string ⟨#[]⟩,.slice none 0 0,.slice none 0 0] 32 (0,0)):=(hg.block (wb.heap.size + 1) (by simp <;> omega) (fun e=>by have hq:=Option.some.inj e; simp at hq)).trans (by have h:=heap_alloc_new (wb.alloc (.cells #[] 9 (0,0))) (.cells #[.int .i64 0,.int .i64 0,.string ⟨#[]⟩,.slice none 0 0,.slice none 0 0] 32 (0,0)); rwa [show (wb.alloc (.cells #[] 9 (0,0))).heap.size=wb.heap.size + 1 from by simp] at h); have HZB:=Lib.hid hzb; obtain ⟨cc0,cc1,cc2,cc3,cc4⟩:=cells5 hzb; obtain ⟨ff0,ff1,ff2,ff3,ff4⟩:=free5 hzb; clear hzb) | (have hzb:w1.heap[wb.heap.size]?=some (.cells #[.int .i64 0,.int .i64 0,.string ⟨#[]⟩,.slice none 0 0,.slice none 0 0] 32 (0,0)):=(hg.block wb.heap.size (by simp <;> omega) (fun e=>by have hq:=Option.some.inj e; simp at hq)).trans ((heap_alloc_old (wb.alloc (.cells #[.int .i64 0,.int .i64 0,.string ⟨#[]⟩,.slice none 0 0,.slice none 0 0] 32 (0,0))) (.cells #[] 9 (0,0)) (by simp)).trans (heap_alloc_new wb _)); have HZB:=Lib.hid hzb; obtain ⟨cc0,cc1,cc2,cc3,cc4⟩:=cells5 hzb; obtain ⟨ff0,ff1,ff2,ff3,ff4⟩:=free5 hzb; clear hzb) | skip); clear ho hg hat; obtain ⟨B3,d3,rfl,m3,n3⟩:=SRow_C HS1.out; clear n3)))
  all_goals first
    | (have HBo:=Lib.hid (put5 HZB.out (.int .i64 x.f0) (.int .i64 x.f1) (.string x.f2) (.slice B3 x.f3.length d3) (.slice none 0 0)); have HBF:Hid (Below wb.heap.size wb (((((w1.setCell ⟨wb.heap.size + 1,0,none⟩ (.int .i64 x.f0)).setCell ⟨wb.heap.size + 1,1,none⟩ (.int .i64 x.f1)).setCell ⟨wb.heap.size + 1,2,none⟩ (.string x.f2)).setCell ⟨wb.heap.size + 1,3,none⟩ (.slice B3 x.f3.length d3)).setCell ⟨wb.heap.size + 1,4,none⟩ (.slice none 0 0))):=(((((HB1.out.setCell (by simp) _).setCell (by simp) _).setCell (by simp) _).setCell (by simp) _).setCell (by simp) _); have HSF:Hid (SRow (((((w1.setCell ⟨wb.heap.size + 1,0,none⟩ (.int .i64 x.f0)).setCell ⟨wb.heap.size + 1,1,none⟩ (.int .i64 x.f1)).setCell ⟨wb.heap.size + 1,2,none⟩ (.string x.f2)).setCell ⟨wb.heap.size + 1,3,none⟩ (.slice B3 x.f3.length d3)).setCell ⟨wb.heap.size + 1,4,none⟩ (.slice none 0 0)) (.slice B3 x.f3.length d3) x.f3):=own_chg HS1.out (((((chg_put w1 (wb.heap.size + 1) 0 _).trans (chg_put _ (wb.heap.size + 1) 1 _)).trans (chg_put _ (wb.heap.size + 1) 2 _)).trans (chg_put _ (wb.heap.size + 1) 3 _)).trans (chg_put _ (wb.heap.size + 1) 4 _)) (fun k hk e=>own_ne HS1.out HZB.out (by decide) (hk.trans (congrArg some e)).symm); have hgo:wb.heap.size≤wb.heap.size + 1:=(by omega); clear HZB HB1 HT1 HS1 cc0 cc1 cc2 cc3 cc4 ff0 ff1 ff2 ff3 ff4; generalize hF:(((((w1.setCell ⟨wb.heap.size + 1,0,none⟩ (.int .i64 x.f0)).setCell ⟨wb.heap.size + 1,1,none⟩ (.int .i64 x.f1)).setCell ⟨wb.heap.size + 1,2,none⟩ (.string x.f2)).setCell ⟨wb.heap.size + 1,3,none⟩ (.slice B3 x.f3.length d3)).setCell ⟨wb.heap.size + 1,4,none⟩ (.slice none 0 0))=F at HBo HBF HSF ⊢; clear hF; generalize hGG:wb.heap.size + 1=go at HBo hgo ⊢; clear hGG)
    | (have HBo:=Lib.hid (put5 HZB.out (.int .i64 x.f0) (.int .i64 x.f1) (.string x.f2) (.slice B3 x.f3.length d3) (.slice none 0 0)); have HBF:Hid (Below wb.heap.size wb (((((w1.setCell ⟨wb.heap.size,0,none⟩ (.int .i64 x.f0)).setCell ⟨wb.heap.size,1,none⟩ (.int .i64 x.f1)).setCell ⟨wb.heap.size,2,none⟩ (.string x.f2)).setCell ⟨wb.heap.size,3,none⟩ (.slice B3 x.f3.length d3)).setCell ⟨wb.heap.size,4,none⟩ (.slice none 0 0))):=(((((HB1.out.setCell (by simp) _).setCell (by simp) _).setCell (by simp) _).setCell (by simp) _).setCell (by simp) _); have HSF:Hid (SRow (((((w1.setCell ⟨wb.heap.size,0,none⟩ (.int .i64 x.f0)).setCell ⟨wb.heap.size,1,none⟩ (.int .i64 x.f1)).setCell ⟨wb.heap.size,2,none⟩ (.string x.f2)).setCell ⟨wb.heap.size,3,none⟩ (.slice B3 x.f3.length d3)).setCell ⟨wb.heap.size,4,none⟩ (.slice none 0 0)) (.slice B3 x.f3.length d3) x.f3):=own_chg HS1.out (((((chg_put w1 (wb.heap.size) 0 _).trans (chg_put _ (wb.heap.size) 1 _)).trans (chg_put _ (wb.heap.size) 2 _)).trans (chg_put _ (wb.heap.size) 3 _)).trans (chg_put _ (wb.heap.size) 4 _)) (fun k hk e=>own_ne HS1.out HZB.out (by decide) (hk.trans (congrArg some e)).symm); have hgo:wb.heap.size≤wb.heap.size:=(by omega); clear HZB HB1 HT1 HS1 cc0 cc1 cc2 cc3 cc4 ff0 ff1 ff2 ff3 ff4; generalize hF:(((((w1.setCell ⟨wb.heap.size,0,none⟩ (.int .i64 x.f0)).setCell ⟨wb.heap.size,1,none⟩ (.int .i64 x.f1)).setCell ⟨wb.heap.size,2,none⟩ (.string x.f2)).setCell ⟨wb.heap.size,3,none⟩ (.slice B3 x.f3.length d3)).setCell ⟨wb.heap.size,4,none⟩ (.slice none 0 0))=F at HBo HBF HSF ⊢; clear hF; clear hgo; obtain ⟨go,hGG⟩:∃ go,go=wb.heap.size:=⟨_,rfl⟩; rw [← hGG] at HBo ⊢; have hgo:wb.heap.size≤go:=Nat.le_of_eq hGG.symm; clear hGG)
    | (have HBo:=Lib.hid (heap_alloc_new w1 (.cells #[.int .i64 x.f0,.int .i64 x.f1,.string x.f2,.slice B3 x.f3.length d3,.slice none 0 0] 32 (0,0))); have HBF:Hid (Below wb.heap.size wb (w1.alloc (.cells #[.int .i64 x.f0,.int .i64 x.f1,.string x.f2,.slice B3 x.f3.length d3,.slice none 0 0] 32 (0,0)))):=below_alloc HB1.out _; have HSF:Hid (SRow (w1.alloc (.cells #[.int .i64 x.f0,.int .i64 x.f1,.string x.f2,.slice B3 x.f3.length d3,.slice none 0 0] 32 (0,0))) (.slice B3 x.f3.length d3) x.f3):=own_below HS1.out (below_alloc (Below.refl _ _) _); have hgo:wb.heap.size≤w1.heap.size:=HB1.out.size; generalize hF:w1.alloc (.cells #[.int .i64 x.f0,.int .i64 x.f1,.string x.f2,.slice B3 x.f3.length d3,.slice none 0 0] 32 (0,0))=F at HBo HBF HSF ⊢; clear hF; generalize hGG:w1.heap.size=go at HBo hgo ⊢; clear hGG)
  all_goals
    have BKF:=Lib.hid (blk_below BKb.out HBF.out)
    have RSF:=Lib.hid (blk_below RSb.out HBF.out)
    have HBL:=Lib.hid (HBb.out.trans (HBF.out.mono HBb.out.size))
    have hgr2:gr<wb.heap.size:=blk_lt RSb.out
    have HW0:Hid (wb.heap.size≤F.heap.size):=HBF.out.size
    have HND:Hid (((Value.slice B3 x.f3.length d3).ownBlock.toList ++ ((Value.slice none 0 0).ownBlock.toList ++ ([]:List (List Nat)).flatten)).Nodup):=by
      show List.Nodup _
      cases (Value.slice B3 x.f3.length d3).ownBlock <;> simp [Value.ownBlock]
    have HGE:Hid (∀ k ∈ (Value.slice B3 x.f3.length d3).ownBlock.toList ++ ((Value.slice none 0 0).ownBlock.toList ++ ([]:List (List Nat)).flatten),wb.heap.size≤k∧k ≠ go):=by
      show ∀ k ∈ _,_
      intro k hk
      have hk2:(Value.slice B3 x.f3.length d3).ownBlock=some k:=by simpa [Value.ownBlock] using hk
      exact ⟨HF1.out k hk2,fun e=>own_ne HSF.out HBo.out (by decide) (hk2.trans (congrArg some e)).symm⟩
    have HBa0:Hid (w.heap.size≤wa.heap.size):=HBa.out.size
    clear BKa HBa
    go_wp2
    go_loopg [4] (x.f4.length + 1) (fun kq v4 w' => ∃ (i : Nat) (inr : List Value) (fs : List (List Nat)) (u3 : Value), v4 = .int .i64 i ∧ i ≤ x.f4.length ∧ kq + i = x.f4.length + 1 ∧ Aside0 (w'.heap[go]? = some (.cells #[.int .i64 x.f0, .int .i64 x.f1, .string x.f2, .slice B3 x.f3.length d3, u3] 32 (0, 0))) ∧ Aside0 (w'.ownsRow wb.heap.size 32 5 u3 i inr) ∧ Aside0 (fs.length = i) ∧ Aside0 (∀ j (hj : j < x.f4.length) f, fs[j]? = some f → OT w' x.f4[j] ((inr.drop (j * 5)).take 5) f) ∧
      Aside0 (((Value.slice B3 x.f3.length d3).ownBlock.toList ++ (u3.ownBlock.toList ++ fs.flatten)).Nodup)∧Aside0 (∀ k ∈ (Value.slice B3 x.f3.length d3).ownBlock.toList ++ (u3.ownBlock.toList ++ fs.flatten),wb.heap.size≤k∧k ≠ go)∧Aside0 (SRow w' (.slice B3 x.f3.length d3) x.f3) ∧
      Aside0 (w'.heap[gb]?=some (.cells #[.int .i64 x.f0,.int .i64 x.f1,.string x.f2,.slice A3 x.f3.length c3,.slice A4 x.f4.length c4] 32 (0,0)))∧Aside0 (w'.heap[gr]?=some (.cells #[.int .i64 0,.int .i64 0,.string ⟨#[]⟩,.slice none 0 0,.slice none 0 0] 32 (0,0)))∧Aside0 (Below w.heap.size w w')∧Aside0 (wb.heap.size≤w'.heap.size))
    case atStart=>exact ⟨0,[],[],_,rfl,Nat.zero_le _,by omega,⟨HBo.out⟩,⟨World.ownsRow_nil _ _ _ _⟩,⟨rfl⟩,⟨fun j hj f hf=>by simp at hf⟩,⟨HND.out⟩,⟨HGE.out⟩,⟨HSF.out⟩,⟨BKF.out⟩,⟨RSF.out⟩,⟨HBL.out⟩,⟨HW0.out⟩⟩
    case round =>
      obtain ⟨i,inr,fs,u3,rfl,hi,hq,BOr,HRr,HFl,HT,HN,HG,HSr,BKr,RSr,HBr,HWB⟩:=hrel
      obtain ⟨k1,rfl⟩:∃ k1,gk=k1 + 1:=⟨gk - 1,by omega⟩
      by_cases hlt:i<x.f4.length
      · skip
        have hltb:decide (i<x.f4.length)=true:=decide_eq_true hlt
        have hlti:(i:Int)<(x.f4.length:Int):=by omega
        have hz0:(0:Int)≤(i:Int):=by omega
        obtain ⟨ad,A3',c3',A4',c4',ea,x0,x1,x2,x3,x4,l3',g3,l4',g4⟩:=at_T32 G4.out (i:Int) (by omega) (by omega)
        have er:rd_T32 x.f4 (i:Int)=x.f4[i]:=rdT2 x.f4 i hlt
        rw [er] at x0 x1 x2 x3 x4 l3' g3 l4' g4
        rw [Int.toNat_natCast] at x0 x1 x2 x3 x4
        subst ea
        have hadw0:(ad.add (i*5)).block<w.heap.size:=World.block_lt_of_cell? w _ x0
        have hadw:(ad.add (i*5)).block<wb.heap.size:=Nat.lt_of_lt_of_le hadw0 HBb.out.size
        replace x0:=below_cell HBr.out hadw0 x0
        replace x1:=below_cell (a:=⟨(ad.add (i*5)).block,_,none⟩) HBr.out hadw0 x1
        replace x2:=below_cell (a:=⟨(ad.add (i*5)).block,_,none⟩) HBr.out hadw0 x2
        replace x3:=below_cell (a:=⟨(ad.add (i*5)).block,_,none⟩) HBr.out hadw0 x3
        replace x4:=below_cell (a:=⟨(ad.add (i*5)).block,_,none⟩) HBr.out hadw0 x4
        have G3':=Lib.hid (Kd.C_below g3 HBr.out)
        have G4':=Lib.hid (Kd.C_below g4 HBr.out)
        clear g3 g4 er hadw0
        have y4:wr.cell? ⟨gb,4,none⟩=some (.slice (some ad) x.f4.length c4):=(blk_cell BKr.out 4).trans rfl
        have o4:wr.cell? ⟨go,4,none⟩=some u3:=(blk_cell BOr.out 4).trans rfl
        have SO5:Hid (∀ W:World,Below wb.heap.size wr W→W.cell? ⟨gb,4,none⟩=some (.slice (some ad) x.f4.length c4)∧W.cell? (ad.add (i*5))=some (.int .i64 x.f4[i].f0)∧W.cell? ⟨(ad.add (i*5)).block,(ad.add (i*5)).off + 1,none⟩=some (.int .i64 x.f4[i].f1)∧W.cell? ⟨(ad.add (i*5)).block,(ad.add (i*5)).off + 2,none⟩=some (.string x.f4[i].f2)∧W.cell? ⟨(ad.add (i*5)).block,(ad.add (i*5)).off + 3,none⟩=some (.slice A3' x.f4[i].f3.length c3')∧W.cell? ⟨(ad.add (i*5)).block,(ad.add (i*5)).off + 4,none⟩=some (.slice A4' x.f4[i].f4.length c4')∧Below wb.heap.size wr W):=fun W hW =>
          ⟨below_cell hW hgb2 y4,below_cell hW hadw x0,below_cell (a:=⟨(ad.add (i*5)).block,_,none⟩) hW hadw x1,below_cell (a:=⟨(ad.add (i*5)).block,_,none⟩) hW hadw x2,below_cell (a:=⟨(ad.add (i*5)).block,_,none⟩) hW hadw x3,below_cell (a:=⟨(ad.add (i*5)).block,_,none⟩) hW hadw x4,hW⟩
        go_wp2
        refine start_ (n:=12) (S:=fun W=>(W.cell? ⟨gb,4,none⟩=some (.slice (some ad) x.f4.length c4)∧W.cell? (ad.add (i*5))=some (.int .i64 x.f4[i].f0)∧W.cell? ⟨(ad.add (i*5)).block,(ad.add (i*5)).off + 1,none⟩=some (.int .i64 x.f4[i].f1)∧W.cell? ⟨(ad.add (i*5)).block,(ad.add (i*5)).off + 2,none⟩=some (.string x.f4[i].f2)∧W.cell? ⟨(ad.add (i*5)).block,(ad.add (i*5)).off + 3,none⟩=some (.slice A3' x.f4[i].f3.length c3')∧W.cell? ⟨(ad.add (i*5)).block,(ad.add (i*5)).off + 4,none⟩=some (.slice A4' x.f4[i].f4.length c4')∧Below wb.heap.size wr W)∧W.cell? ⟨go,4,none⟩=some u3) (ds:=[11]) #[false,false,false,false,false,false,false,false,false,false,false,false] (by kernel_rfl) rfl rfl (⟨SO5.out _ ((below_drew (Below.refl _ _)).mono HWB.out),(blk_cell (blk_below BOr.out (below_drew (Below.refl _ _))) 4).trans rfl⟩) (fun hHeld=>?_)
        refine pure_ (i:=0) (N:=some 23) (v:=_) (a':=_) (bs_ 12 1) rfl rfl (by kernel_rfl) (fun _ _ _ h=>h) (Or.inl ⟨by rfl,by intro w'; go_simp; first | with_reducible rfl | rfl⟩) (by simp only [Act.put,List.setIfInBounds_toArray,List.set_cons_zero,List.set_cons_succ]; rfl) ?_
        refine pure_ (i:=2) (N:=some 25) (v:=_) (a':=_) (bs_ 12 5) rfl rfl (by kernel_rfl) (fun _ _ _ h=>h) (Or.inl ⟨by rfl,by intro w'; go_simp; first | with_reducible rfl | rfl⟩) (by simp only [Act.put,List.setIfInBounds_toArray,List.set_cons_zero,List.set_cons_succ]; rfl) ?_
        refine pure_ (i:=4) (N:=some 27) (v:=_) (a':=_) (bs_ 12 21) rfl rfl (by kernel_rfl) (fun _ _ _ h=>h) (Or.inl ⟨by rfl,by intro w'; go_simp; first | with_reducible rfl | rfl⟩) (by simp only [Act.put,List.setIfInBounds_toArray,List.set_cons_zero,List.set_cons_succ]; rfl) ?_
        refine take_ (i:=1) (N:=some 24) (v:=?_) (a':=?_) (bs_ 12 23) rfl rfl (by kernel_rfl) (fun _ _ _ h=>h) (Or.inl ⟨by rfl,?_⟩) hHeld ?_ ?_
        rotate_left
        · rintro w' ⟨⟨s0, s1, s2, s3, s4, s5, _⟩, s6⟩
          go_simp
          (first | with_reducible rfl | rfl)
        rotate_left
        · simp only [Act.put, List.setIfInBounds_toArray, List.set_cons_zero, List.set_cons_succ]
          rfl
        refine take_ (i:=3) (N:=some 26) (v:=?_) (a':=?_) (bs_ 12 31) rfl rfl (by kernel_rfl) (fun _ _ _ h=>h) (Or.inl ⟨by rfl,?_⟩) hHeld ?_ ?_
        rotate_left
        · rintro w' ⟨⟨s0, s1, s2, s3, s4, s5, _⟩, s6⟩
          go_simp
          (first | with_reducible rfl | rfl)
        rotate_left
        · simp only [Act.put, List.setIfInBounds_toArray, List.set_cons_zero, List.set_cons_succ]
          rfl
        refine pure_ (i:=5) (N:=some 28) (v:=_) (a':=_) (bs_ 12 63) rfl rfl (by kernel_rfl) (fun _ _ _ h=>h) (Or.inl ⟨by rfl,by intro w'; go_simp; first | with_reducible rfl | rfl⟩) (by simp only [Act.put,List.setIfInBounds_toArray,List.set_cons_zero,List.set_cons_succ]; rfl) ?_
        refine take_ (i:=6) (N:=some 29) (v:=?_) (a':=?_) (bs_ 12 127) rfl rfl (by kernel_rfl) (fun _ _ _ h=>h) (Or.inl ⟨by rfl,?_⟩) hHeld ?_ ?_
        rotate_left
        · rintro w' ⟨⟨s0, s1, s2, s3, s4, s5, _⟩, s6⟩
          go_simp
          (first | with_reducible rfl | rfl)
        rotate_left
        · simp only [Act.put, List.setIfInBounds_toArray, List.set_cons_zero, List.set_cons_succ]
          rfl
        refine one_ (i:=7) (N:=some 30) (bs_ 12 255) rfl rfl (by kernel_rfl) (by decide) (fun K hK=>?_)
        refine goes_ Tryz.func113 (by kernel_rfl) rfl #[.agg #[.int .i64 x.f4[i].f0,.int .i64 x.f4[i].f1,.string x.f4[i].f2,.slice A3' x.f4[i].f3.length c3',.slice A4' x.f4[i].f4.length c4']] (by rfl) rfl rfl (by (try simp only [List.map_toArray,List.map_cons,List.map_nil]); first | done | rfl) ?_
        refine (IH.out x.f4[i] (List.getElem_mem hlt) _ _ _ _ _ (Kd.C_below G3'.out (below_drew (Below.refl _ _))) l3' (Kd.C_below G4'.out (below_drew (Below.refl _ _))) l4').mono ?_
        rintro e w6 ⟨v3,v4,gss,rfl,ht,hg2,hb2⟩
        refine ⟨_,rfl,?_⟩
        obtain ⟨D3,e3,rfl,m3',n3⟩:=SRow_C ht.1
        obtain ⟨D4,e4,rfl,m4',n4⟩:=ORow_C ht.2.1
        have HT6:=Lib.hid ht
        have HG6:=Lib.hid (fun k hk=>(hg2 k hk:wr.heap.size≤k))
        have HW6:=Lib.hid ((below_drew (Below.refl wr.heap.size wr)).trans hb2)
        have HL6:=Lib.hid (HBr.out.trans (HW6.out.mono HBr.out.size))
        have o46:=(blk_cell (blk_below BOr.out HW6.out) 4).trans (rfl:_=some u3)
        have o47:=(blk_cell (blk_below BOr.out (below_alloc HW6.out (.cells #[.int .i64 x.f4[i].f0,.int .i64 x.f4[i].f1,.string x.f4[i].f2,.slice D3 x.f4[i].f3.length e3,.slice D4 x.f4[i].f4.length e4] 32))) 4).trans (rfl:_=some u3)
        have HQ6:=Lib.hid ((below_drew (Below.refl wr.heap.size wr)).trans hb2 |>.mono HWB.out)
        clear ht hg2 hb2 n3 n4
        refine hK.out _ _ (⟨SO5.out _ HQ6.out,o46⟩) (fun hHeld=>?_)
        clear hK K
        refine norm_ (a':=?_) ?_ ?_
        rotate_left
        · show Act.put _ (some 30) _ = _
          simp only [Act.put,List.setIfInBounds_toArray,List.set_cons_zero,List.set_cons_succ]
          rfl
        refine one_ (i:=8) (N:=some 31) (bs_ 12 511) rfl rfl (by kernel_rfl) (by decide) (fun K hK=>?_)
        refine value_ (w1:=?_) (v:=?_) (by rfl) rfl ?_ ?_
        rotate_left 2
        · go_simp
          constructor
          · rfl
          · rfl
        refine hK.out _ _ (⟨SO5.out _ (HQ6.out.alloc (Nat.le_trans HWB.out HW6.out.size) _),o47⟩) (fun hHeld=>?_)
        clear hK K
        refine norm_ (a':=?_) ?_ ?_
        rotate_left
        · show Act.put _ (some 31) _ = _
          simp only [Act.put,List.setIfInBounds_toArray,List.set_cons_zero,List.set_cons_succ]
          rfl
        refine one_ (i:=9) (N:=some 32) (bs_ 12 1023) rfl rfl (by kernel_rfl) (by decide) (fun K hK=>?_)
        (refine step_append_rd rfl _ _ 30 32 rfl wb.heap.size 5 80 (.agg #[(.int .i64 0),(.int .i64 0),(.string ⟨#[]⟩),(.slice none 0 0),(.slice none 0 0)]) Tryz.underlying30 info32 rfl (by decide) u3 i inr (some ⟨w6.heap.size,0,none⟩) 1 1 [.int .i64 x.f4[i].f0,.int .i64 x.f4[i].f1,.string x.f4[i].f2,.slice D3 x.f4[i].f3.length e3,.slice D4 x.f4[i].f4.length e4] rfl rfl ?_ ?_ ?_ ?_ ?_ ?_; (focus (exact own_below HRr.out (below_alloc HW6.out _))); (focus (exact Src_box w6 _ _ 5 rfl (by intro u hu; simp at hu; rcases hu with rfl | rfl | rfl | rfl | rfl <;> rfl))); (focus (unfold maxLen; omega)); (focus omega); (focus (exact Nat.le_trans HWB.out (below_alloc HW6.out _).size)); (intro u7 w7 hown hgr hat; have HO7:=Lib.hid hown; have HGR7:=Lib.hid hgr; have HAT7:=Lib.hid hat; have BO7:=Lib.hid (blk_grown (blk_below BOr.out (below_alloc HW6.out (.cells #[.int .i64 x.f4[i].f0,.int .i64 x.f4[i].f1,.string x.f4[i].f2,.slice D3 x.f4[i].f3.length e3,.slice D4 x.f4[i].f4.length e4] 32))) hgr (fun e=>(HG.out go (by simp [← e])).2 rfl)); obtain ⟨ob0,ob1,ob2,ob3,ob4⟩:=cells5 BO7.out; obtain ⟨fo0,fo1,fo2,fo3,fo4⟩:=free5 BO7.out; have HQ7:=Lib.hid (Below.grown (HQ6.out.alloc (Nat.le_trans HWB.out HW6.out.size) _) hgr (Nat.le_trans HWB.out (below_alloc HW6.out _).size) (fun k hk=>(HG.out k (by simp [hk])).1)); obtain ⟨g7,cap7,rfl⟩:=own_form hown (by omega); clear hown hgr hat))
        refine hK.out _ _ (⟨SO5.out _ HQ7.out,ob4⟩) (fun hHeld=>?_)
        clear hK K
        refine norm_ (a':=?_) ?_ ?_
        rotate_left
        · show Act.put _ (some 32) _ = _
          simp only [Act.put,List.setIfInBounds_toArray,List.set_cons_zero,List.set_cons_succ]
          rfl
        refine pure_ (i:=10) (N:=some 33) (v:=_) (a':=_) (bs_ 12 2047) rfl rfl (by kernel_rfl) (fun _ _ _ h=>h) (Or.inl ⟨by rfl,by intro w'; go_simp; first | with_reducible rfl | rfl⟩) (by simp only [Act.put,List.setIfInBounds_toArray,List.set_cons_zero,List.set_cons_succ]; rfl) ?_
        refine last_ (i:=11) (N:=none) (bs_ 12 4095) rfl rfl (by kernel_rfl) (by decide) (fun K hK=>?_)
        refine skip_ (w1:=?_) (by rfl) rfl ?_ ?_
        rotate_left
        · go_simp
          rfl
        refine hK.out _ _ ?_
        clear hK K
        refine done_ (by kernel_rfl) ?_
        all_goals
          have hfp6:∀ k ∈ topFp (.slice D3 x.f4[i].f3.length e3) (.slice D4 x.f4[i].f4.length e4) gss,wr.heap.size≤k∧k<w6.heap.size:=fun k hk=>⟨HG6.out k hk,Top_lt HT6.out k hk⟩
          have hown:∀ k ∈ (Value.slice B3 x.f3.length d3).ownBlock.toList ++ (u3.ownBlock.toList ++ fs.flatten),k<wr.heap.size:=by
            intro k hk
            simp only [List.mem_append,mem_own] at hk
            rcases hk with hk | hk | hk
            · exact (HSr.out.lt k hk).2
            · exact (HRr.out.lt k hk).2
            · obtain ⟨f, hf, hkf⟩ := List.mem_flatten.1 hk
              obtain ⟨j,hj,rfl⟩:=List.getElem_of_mem hf
              have hj2:j<x.f4.length:=by have:=HFl.out; omega
              exact OT_lt _ _ _ (HT.out j hj2 _ (List.getElem?_eq_getElem hj)) k hkf
          have hat:(Value.slice (some ⟨g7,0,none⟩) (i + 1) cap7).ownBlock.toList=u3.ownBlock.toList ∨ ∃ q,(Value.slice (some ⟨g7,0,none⟩) (i + 1) cap7).ownBlock.toList=[q]∧w6.heap.size≤q:=by
            rcases HAT7.out with e | e
            · exact .inl (by rw [e])
            · exact .inr ⟨_,by rw [e]; rfl,by simp⟩
          have hcg:Chg (fun k=>u3.ownBlock=some k) wr w7:=(Chg.of_same (below_alloc HW6.out _)).trans (Chg.grown HGR7.out (fun k e=>e))
          have hs6:=HW6.out.size
          have hsw:=HWB.out
          have hgl:go<wr.heap.size:=blk_lt BOr.out
          have hu3:∀ k,u3.ownBlock=some k→wb.heap.size≤k∧k ≠ go:=fun k hk=>HG.out k (by simp [hk])
          have hu7:∀ k,(Value.slice (some ⟨g7,0,none⟩) (i + 1) cap7).ownBlock=some k→wb.heap.size≤k∧k ≠ go:=fun k hk=>by
            rcases HAT7.out with e | e
            · exact hu3 k (e ▸ hk)
            · have hq : k = w6.heap.size + 0 ∨ True := .inr trivial
              rw [e] at hk
              have hq2:=Option.some.inj hk
              simp at hq2
              omega
          have hinr:inr.length=i*5:=HRr.out.1
          have HFP:=Lib.hid hfp6
          have HOWN:=Lib.hid hown
          have HATT:=Lib.hid hat
          have HCG:=Lib.hid hcg
          have HU3:=Lib.hid hu3
          have HU7:=Lib.hid hu7
          have HC8:=Lib.hid (hcg.mono (S':=fun k=>u3.ownBlock=some k ∨ k=go) (fun k _ e=>.inl e) |>.trans ((chg_put w7 go 4 (Value.slice (some ⟨g7,0,none⟩) (i + 1) cap7)).mono (fun k _ e=>.inr e)))
          clear hfp6 hown hat hcg hu3 hu7
          go_wp2
          go_roundg k1
          case rel =>
            refine ⟨i + 1,inr ++ [Value.int .i64 x.f4[i].f0,.int .i64 x.f4[i].f1,.string x.f4[i].f2,.slice D3 x.f4[i].f3.length e3,.slice D4 x.f4[i].f4.length e4],fs ++ [topFp (.slice D3 x.f4[i].f3.length e3) (.slice D4 x.f4[i].f4.length e4) gss],_,by go_num,by omega,by omega,⟨blk_put BO7.out 4 (Value.slice (some ⟨g7,0,none⟩) (i + 1) cap7) rfl⟩,⟨own_chg HO7.out (chg_put w7 go 4 (Value.slice (some ⟨g7,0,none⟩) (i + 1) cap7)) (fun k hk e=>(HU7.out k hk).2 e)⟩,⟨by rw [List.length_append,HFl.out]; rfl⟩,⟨fun j hj f hf=>?_⟩,⟨?_⟩,⟨fun k hk=>?_⟩,⟨?_⟩,⟨?_⟩,⟨?_⟩,⟨?_⟩,⟨by have:=HC8.out.size; omega⟩⟩
            · rcases Nat.lt_or_ge j i with hji | hji
              · rw [List.getElem?_append_left (by rw [HFl.out]; exact hji)] at hf
                have e1:((inr ++ [Value.int .i64 x.f4[i].f0,.int .i64 x.f4[i].f1,.string x.f4[i].f2,.slice D3 x.f4[i].f3.length e3,.slice D4 x.f4[i].f4.length e4]).drop (j*5)).take 5=(inr.drop (j*5)).take 5:=by
                  rw [List.drop_append_of_le_length (by omega),List.take_append_of_le_length (by rw [List.length_drop]; omega)]
                rw [e1]
                refine OT_chg HC8.out _ _ _ (HT.out j hj f hf) (fun k hk e=>?_)
                have hn2:=(List.nodup_append.1 (List.nodup_append.1 HN.out).2.1).2.2
                rcases e with e | e
                · exact hn2 k (by simp [e]) k (mem_flat hf hk) rfl
                · exact (HG.out k (by simp only [List.mem_append]; exact .inr (.inr (mem_flat hf hk)))).2 e
              · have hjl := (List.getElem?_eq_some_iff.1 hf).1
                rw [List.length_append,HFl.out,List.length_singleton] at hjl
                obtain rfl:j=i:=by omega
                rw [List.getElem?_append_right (by rw [HFl.out]; exact Nat.le_refl _),HFl.out,Nat.sub_self] at hf
                obtain rfl:=Option.some.inj hf
                have e1:((inr ++ [Value.int .i64 x.f4[j].f0,.int .i64 x.f4[j].f1,.string x.f4[j].f2,.slice D3 x.f4[j].f3.length e3,.slice D4 x.f4[j].f4.length e4]).drop (j*5)).take 5=[Value.int .i64 x.f4[j].f0,.int .i64 x.f4[j].f1,.string x.f4[j].f2,.slice D3 x.f4[j].f3.length e3,.slice D4 x.f4[j].f4.length e4]:=by
                  rw [← hinr,List.drop_left]
                  rfl
                rw [e1]
                have hcl:Chg (fun k=>u3.ownBlock=some k ∨ k=go) w6 (w7.setCell ⟨go,4,none⟩ (Value.slice (some ⟨g7,0,none⟩) (j + 1) cap7)):=((Chg.of_same (S:=fun k=>u3.ownBlock=some k ∨ k=go) (below_alloc (Below.refl _ _) _)).trans (Chg.grown HGR7.out (fun k e=>.inl e))).trans ((chg_put w7 go 4 (Value.slice (some ⟨g7,0,none⟩) (j + 1) cap7)).mono (fun k _ e=>.inr e))
                have htop:=Top_chg HT6.out hcl (fun k hk e=>by
                  have h1:=(HFP.out k hk).1
                  rcases e with e | e
                  · have:=(HRr.out.lt k e).2; omega
                  · omega)
                rw [OT_iff]
                exact ⟨_,_,gss,rfl,htop.1,htop.2.1,rfl⟩
            · rw [List.flatten_append, List.flatten_singleton]
              exact app_fp HN.out HT6.out.2.2 HOWN.out HFP.out HATT.out hs6
            · rw [List.flatten_append, List.flatten_singleton] at hk
              simp only [List.mem_append] at hk
              rcases hk with hk | hk | hk | hk
              · exact HG.out k (by simp only [List.mem_append]; exact .inl hk)
              · exact HU7.out k (mem_own.1 hk)
              · exact HG.out k (by simp only [List.mem_append]; exact .inr (.inr hk))
              · have := (HFP.out k hk).1
                exact ⟨by omega,by omega⟩
            · exact own_chg HSr.out HC8.out (fun k hk e=>by
                rcases e with e | e
                · exact (List.nodup_append.1 HN.out).2.2 k (by simp [hk]) k (by simp [e]) rfl
                · exact (HG.out k (by simp [hk])).2 e)
            · refine (HC8.out.block gb (blk_lt BKr.out) (fun e => ?_)).trans BKr.out
              rcases e with e | e
              · have:=(HU3.out gb e).1; omega
              · omega
            · refine (HC8.out.block gr (blk_lt RSr.out) (fun e => ?_)).trans RSr.out
              rcases e with e | e
              · have:=(HU3.out gr e).1; omega
              · omega
            · exact below_chg HBr.out HBr.out.size HC8.out (fun k e=>by
                have hw:=HBb.out.size
                rcases e with e | e
                · have:=(HU3.out k e).1; omega
                · omega)
          case measure=>omega
      · obtain rfl : i = x.f4.length := by omega
        have hu4:∃ B4 d4,u3=.slice B4 x.f4.length d4:=by
          rcases HRr.out.2 with ⟨rfl,h0⟩ | ⟨g,cap,cur,rfl,_⟩
          · exact ⟨none,0,by rw [h0]⟩
          · exact ⟨_,_,rfl⟩
        obtain ⟨B4,d4,rfl⟩:=hu4
        obtain ⟨y0,y1,y2,y3,y4⟩:=cells5 BKr.out
        obtain ⟨o0,o1,o2,o3,o4⟩:=cells5 BOr.out
        obtain ⟨r0,r1,r2,r3,r4⟩:=cells5 RSr.out
        obtain ⟨p0,p1,p2,p3,p4⟩:=free5 RSr.out
        have hlti:¬ (x.f4.length:Int)<(x.f4.length:Int):=by omega
        have hgw:w.heap.size≤gr:=by rw [HGR.out]; exact HBa0.out
        go_wp2
        have hs1:∀ k ∈ topFp (.slice B3 x.f3.length d3) (.slice B4 x.f4.length d4) fs,wb.heap.size≤k:=fun k hk=>(HG.out k hk).1
        have htop:Top wr (.slice B3 x.f3.length d3) (.slice B4 x.f4.length d4) x fs:=⟨HSr.out,⟨inr,own_weaken HRr.out (Nat.zero_le _),HFl.out,fun j hj f hf=>HT.out j hj f hf⟩,HN.out⟩
        have hwb:=HBb.out.size
        exact bodyPost_ret (v := .agg #[.int .i64 x.f0, .int .i64 x.f1, .string x.f2, .slice B3 x.f3.length d3, .slice B4 x.f4.length d4]) (by simp [results, Tryz.results113, go_sem, r0, r1, r2, r3, r4, p0, p1, p2, p3, p4]) rfl
          ⟨_,_,rfl,fs,Top_chg (S:=fun k=>k<wb.heap.size) htop (((((Chg.set _ ⟨gr,0,none⟩ _ hgr2).trans (Chg.set _ ⟨gr,1,none⟩ _ hgr2)).trans (Chg.set _ ⟨gr,2,none⟩ _ hgr2)).trans (Chg.set _ ⟨gr,3,none⟩ _ hgr2)).trans (Chg.set _ ⟨gr,4,none⟩ _ hgr2)) (fun k hk e=>by have:=hs1 k hk; omega),fun k hk=>by have:=hs1 k hk; omega,((((HBr.out.setCell (p:=⟨gr,0,none⟩) hgw _).setCell (p:=⟨gr,1,none⟩) hgw _).setCell (p:=⟨gr,2,none⟩) hgw _).setCell (p:=⟨gr,3,none⟩) hgw _).setCell (p:=⟨gr,4,none⟩) hgw _⟩
theorem copyS_all (x:S32):cntTop x≤1099511627776→ToCopyS x:=by
  refine tree_ind (P:=fun x=>cntTop x≤1099511627776→ToCopyS x) (fun x ih hc=>copyS_of x hc (fun y hy=>ih y hy ?_)) x
  have h1:=mem_le_sum cntK x.f4 y hy
  have h2:=cntK_eq y
  unfold cntTop at hc ⊢
  omega
end Go.Proofs.YtdlhidjphaaklaaGreat.H
end
section
namespace Go.Proofs.YtdlhidjphaaklaaGreat.H
open Go.RowKit Go.Proofs.YtdlhidjphaaklaaGreat.P Go.Proofs.YtdlhidjphaaklaaGreatW.PrintWords Go.Proofs.YtdlhidjphaaklaaGreat.M
theorem own_sets {b e s n g cap : Nat} : ∀ (vs : List Value) (o : Nat) (w : World) (xs : List Value), w.ownsRow b e s (.slice (some ⟨g, 0, none⟩) n cap) n xs → o + vs.length ≤ xs.length →
    (w.setCells g o vs).ownsRow b e s (.slice (some ⟨g,0,none⟩) n cap) n (xs.take o ++ vs ++ xs.drop (o + vs.length))
  | [],o,w,xs,h,_=>by
    show w.ownsRow _ _ _ _ _ _
    rw [List.append_nil,List.length_nil,Nat.add_zero,List.take_append_drop]
    exact h
  | v :: r,o,w,xs,h,hl=>by
    rw [List.length_cons] at hl
    have h2:=own_sets r (o + 1) (w.setCell ⟨g,o,none⟩ v) (xs.set o v) (own_set h o v (by omega)) (by rw [List.length_set]; omega)
    have e1:(xs.set o v).take (o + 1)=xs.take o ++ [v]:=by
      rw [List.take_add_one,List.getElem?_set_self (by omega),List.take_set_of_le (Nat.le_refl _)]
      rfl
    have e2:(xs.set o v).drop (o + 1 + r.length)=xs.drop (o + 1 + r.length):=by rw [List.drop_set_of_lt (by omega)]
    rw [e1,e2] at h2
    rw [List.length_cons,show o + (r.length + 1)=o + 1 + r.length by omega]
    show ((w.setCell ⟨g,o,none⟩ v).setCells g (o + 1) r).ownsRow _ _ _ _ _ _
    simpa using h2
theorem chg_sets (g : Nat) : ∀ (vs : List Value) (o : Nat) (w : World), Chg (fun k => k = g) w (w.setCells g o vs)
  | [],_,w=>Chg.refl _ _
  | v :: r,o,w=>(Chg.set (S:=fun k=>k=g) w ⟨g,o,none⟩ v rfl).trans (chg_sets g r (o + 1) _)
theorem row_one {w:World} {v:Value} {kids:List S32} {fss:List (List Nat)} {inner:List Value} (h3:w.ownsRow 0 32 5 v kids.length inner) (h4:fss.length=kids.length) (h5:∀ i (h:i<kids.length) f,fss[i]?=some f→OT w kids[i] ((inner.drop (i*5)).take 5) f):∀ u ∈ inner,u.oneCell'=true:=by
  intro u hu
  obtain ⟨t,ht,rfl⟩:=List.getElem_of_mem hu
  have hl:inner.length=kids.length*5:=h3.1
  have hq:t / 5<kids.length:=by omega
  have ho:=h5 (t / 5) hq _ (List.getElem?_eq_getElem (by omega))
  rw [OT_iff] at ho
  obtain ⟨v3,v4,gss,e,h6,h7,_⟩:=ho
  obtain ⟨B3,d3,rfl,_,_⟩:=SRow_C h6
  obtain ⟨B4,d4,rfl,_,_⟩:=ORow_C h7
  have hm:inner[t] ∈ (inner.drop (t / 5*5)).take 5:=by
    refine List.mem_iff_getElem?.2 ⟨t % 5,?_⟩
    rw [List.getElem?_take,if_pos (by omega),List.getElem?_drop,show t / 5*5 + t % 5=t by omega]
    exact List.getElem?_eq_getElem ht
  rw [e] at hm
  simp at hm
  rcases hm with e | e | e | e | e <;> rw [e] <;> rfl
theorem flat_erase : ∀ (l : List (List Nat)) (i : Nat), (l.eraseIdx i).flatten.Sublist l.flatten
  | [],i=>by simp
  | a :: l,0=>by rw [List.eraseIdx_zero,List.tail_cons,List.flatten_cons]; exact List.sublist_append_right _ _
  | a :: l,i + 1=>by rw [List.eraseIdx_cons_succ,List.flatten_cons,List.flatten_cons]; exact List.Sublist.append (List.Sublist.refl _) (flat_erase l i)
theorem SRow_at {w:World} {P:Option Addr} {m p:Nat} {xs:List ByteArray} (h:SRow w (.slice P m p) xs):Kd.string.C w P xs.length xs:=by
  obtain ⟨A,c,e,_,hc⟩:=SRow_C h
  injection e with e1 _ _
  rw [e1]
  exact hc
def set5 (inner:List Value) (i:Nat) (u0 u1 u2 u3 u4:Value):List Value:=((((inner.set (i*5) u0).set (i*5 + 1) u1).set (i*5 + 2) u2).set (i*5 + 3) u3).set (i*5 + 4) u4
theorem set5_same {inner:List Value} {n i:Nat} (hl:inner.length=n*5) (hi:i<n) (u0 u1 u2 u3 u4:Value):((set5 inner i u0 u1 u2 u3 u4).drop (i*5)).take 5=[u0,u1,u2,u3,u4]:=by
  have h5:i*5 + 5≤n*5:=by rw [← Nat.succ_mul]; exact Nat.mul_le_mul_right _ (by omega)
  apply List.ext_getElem?
  intro j
  rw [List.getElem?_take]
  unfold set5
  by_cases hj:j<5
  · rw [if_pos hj, List.getElem?_drop, List.getElem?_set, List.getElem?_set, List.getElem?_set, List.getElem?_set, List.getElem?_set]
    simp only [List.length_set]
    rcases j with _ | _ | _ | _ | _ | j
    · rw [if_neg (by omega),if_neg (by omega),if_neg (by omega),if_neg (by omega),if_pos (by omega),if_pos (by omega)]; rfl
    · rw [if_neg (by omega),if_neg (by omega),if_neg (by omega),if_pos (by omega),if_pos (by omega)]; rfl
    · rw [if_neg (by omega),if_neg (by omega),if_pos (by omega),if_pos (by omega)]; rfl
    · rw [if_neg (by omega),if_pos (by omega),if_pos (by omega)]; rfl
    · rw [if_pos (by omega),if_pos (by omega)]; rfl
    · omega
  · rw [if_neg hj]
    symm
    exact List.getElem?_eq_none (by simp; omega)
theorem set5_other {inner:List Value} {i j:Nat} (hne:i ≠ j) (u0 u1 u2 u3 u4:Value):((set5 inner i u0 u1 u2 u3 u4).drop (j*5)).take 5=(inner.drop (j*5)).take 5:=by
  apply List.ext_getElem?
  intro k
  rw [List.getElem?_take,List.getElem?_take]
  unfold set5
  by_cases hk:k<5
  · rw [if_pos hk,if_pos hk,List.getElem?_drop,List.getElem?_drop,List.getElem?_set_ne (by omega),List.getElem?_set_ne (by omega),List.getElem?_set_ne (by omega),List.getElem?_set_ne (by omega),List.getElem?_set_ne (by omega)]
  · rw [if_neg hk,if_neg hk]
theorem own_set5 {w:World} {b e s n g cap i:Nat} {xs:List Value} (h:w.ownsRow b e s (.slice (some ⟨g,0,none⟩) n cap) n xs) (hi:i*5 + 5≤xs.length) (u0 u1 u2 u3 u4:Value) :
    (((((w.setCell ⟨g,i*5,none⟩ u0).setCell ⟨g,i*5 + 1,none⟩ u1).setCell ⟨g,i*5 + 2,none⟩ u2).setCell ⟨g,i*5 + 3,none⟩ u3).setCell ⟨g,i*5 + 4,none⟩ u4).ownsRow b e s (.slice (some ⟨g,0,none⟩) n cap) n (set5 xs i u0 u1 u2 u3 u4) :=
  own_set (own_set (own_set (own_set (own_set h (i*5) u0 (by omega)) (i*5 + 1) u1 (by simp only [List.length_set]; omega)) (i*5 + 2) u2 (by simp only [List.length_set]; omega)) (i*5 + 3) u3 (by simp only [List.length_set]; omega)) (i*5 + 4) u4 (by simp only [List.length_set]; omega)
theorem chg_set5 {S:Nat→Prop} (w:World) (g i:Nat) (u0 u1 u2 u3 u4:Value) (hg:S g):Chg S w (((((w.setCell ⟨g,i*5,none⟩ u0).setCell ⟨g,i*5 + 1,none⟩ u1).setCell ⟨g,i*5 + 2,none⟩ u2).setCell ⟨g,i*5 + 3,none⟩ u3).setCell ⟨g,i*5 + 4,none⟩ u4) :=
  ((((Chg.set w ⟨g,i*5,none⟩ u0 hg).trans (Chg.set _ ⟨g,i*5 + 1,none⟩ u1 hg)).trans (Chg.set _ ⟨g,i*5 + 2,none⟩ u2 hg)).trans (Chg.set _ ⟨g,i*5 + 3,none⟩ u3 hg)).trans (Chg.set _ ⟨g,i*5 + 4,none⟩ u4 hg)
theorem own_extend {w:World} {b e s n g cap:Nat} {xs:List Value} (h:w.ownsRow b e s (.slice (some ⟨g,0,none⟩) n cap) n xs) (hr:n + 1≤cap):∃ junk:List Value,junk.length=s∧w.ownsRow b e s (.slice (some ⟨g,0,none⟩) (n + 1) cap) (n + 1) (xs ++ junk):=by
  obtain ⟨hl,h2⟩:=h
  rcases h2 with ⟨h0,_⟩ | ⟨g',cap',cur,hv,q0,q1,q2,q3,q4,q5⟩
  · cases h0
  · injection hv with h1 h2 h3
    injection h1 with h1
    injection h1 with h1
    subst h1; subst h3
    have hc:(n + 1)*s≤cur.toList.length:=by rw [Array.length_toList,q4]; exact Nat.mul_le_mul_right _ hr
    rw [Nat.succ_mul] at hc
    have hj:((cur.toList.drop (n*s)).take s).length=s:=by rw [List.length_take,List.length_drop]; omega
    refine ⟨(cur.toList.drop (n*s)).take s,hj,by rw [List.length_append,hj,hl,Nat.succ_mul],.inr ⟨_,_,cur,rfl,q0,q1,hr,q3,q4,?_⟩⟩
    rw [← q5,Nat.succ_mul,List.take_add]
theorem run_copy_s {P : Program} (w : World) (dT sT ty elem : TypeId) (b o dLen dCap : Nat) (a : Addr) (sLen sCap s : Nat) (cs : List Value)
    (hu:P.underlying dT=some (.slice elem)) (hs:(P.info? elem).map (·.size)=some s) (n:Nat) (hm:Nat.min sLen dLen=n) (hn:cs.length=n*s)
    (hsrc:∀ j v,cs[j]?=some v→w.cell? (a.add j)=some v) (hc:∀ j,j<cs.length→(w.cell? ⟨b,o + j,none⟩).isSome=true) (hf:∀ j,j<cs.length→w.frozen? ⟨b,o + j,none⟩=false) (h1:∀ v ∈ cs,v.oneCell'=true) :
    (Builtin.copy_ #[dT,sT] ty #[.slice (some ⟨b,o,none⟩) dLen dCap,.slice (some a) sLen sCap]).run P w=.ok (goInt n) (w.setCells b o cs):=by
  have hl:=run_loadCells_list (P:=P) w a cs hsrc
  have hst:=run_storeCells_cells (P:=P) b o cs 0 w (by simpa using hc) (by simpa using hf) h1
  cases hq:P.info? elem with
  | none=>simp [hq] at hs
  | some i =>
    have hi:i.size=s:=by simpa [hq] using hs
    simp [Builtin.copy_,run_underlying hu,Builtin.lenOf,Builtin.firstCells,sizeOf,typeInfo,hq,hi,hm,← hn,hl,hst]
set_option maxHeartbeats 4000000 in
set_option maxRecDepth 1000000 in
theorem insS_shift (g n cap i:Nat) (xs ys:List Value) (vb:Nat) (w:World) (h:w.ownsRow 0 9 1 (.slice (some ⟨g,0,none⟩) n cap) n xs) (hi:i<n) (hn:n≤1099511627776) (hroom:n + 1≤cap) (h1x:∀ u ∈ xs,u.oneCell'=true) (h1y:∀ u ∈ ys,u.oneCell'=true) (hyl:ys.length=1) (hv:w.heap[vb]?=some (.cells ys.toArray 9 (0,0))) (hne:vb ≠ g) :
    Calls Tryz.prog 129 #[.slice (some ⟨g,0,none⟩) n cap,.int .i64 i,.slice (some ⟨vb,0,none⟩) 1 1] w fun e w'=>e=.returned (.slice (some ⟨g,0,none⟩) (n + 1) cap)∧w'.ownsRow 0 9 1 (.slice (some ⟨g,0,none⟩) (n + 1) cap) (n + 1) (xs.take (i) ++ ys ++ xs.drop (i))∧Chg (fun k=>k=g) w w':=by
  have hu:=Tryz.underlying9
  have t24:=Tryz.underlying22
  obtain ⟨i0,hi0,hz0,hzs,hzb⟩:=info_parts info9
  have hsz:(Tryz.prog.info? 9).map (·.size)=some 1:=by rw [hi0]; simp [hzs]
  have hlen:xs.length=n:=by have:=h.1; simpa using this
  have hcap:cap≤maxLen:=by
    obtain ⟨_,h2⟩:=h
    rcases h2 with ⟨h0,_⟩ | ⟨g',cap',cur,hv,_,_,q1,q2,_⟩
    · cases h0
    · injection hv with _ _ q3
      exact q3 ▸ q2
  have hcap2:cap≤9223372036854775807:=hcap
  obtain ⟨junk,hjl,hext⟩:=own_extend h hroom
  have hdl:(xs.drop (i)).length=(n - i)*1:=by rw [List.length_drop,hlen]; omega
  have hpos:0<(n + 1)*1:=by omega
  have hcells:=fun (j:Nat) (hj:j<(n + 1)*1)=>own_at hext j (by rw [hext.1]; exact hj)
  have hxc:∀ (j:Nat) (v:Value),xs[j]?=some v→w.cell? ⟨g,j,none⟩=some v:=fun j v hj=>own_cell h hj
  have hyc:∀ (j:Nat) (v:Value),ys[j]?=some v→w.cell? ⟨vb,j,none⟩=some v:=fun j v hj=>by rw [blk_cell hv]; simpa using hj
  obtain ⟨curg,hcurg,hcurs⟩:∃ cur:Array Value,w.heap[g]?=some (.cells cur 9 (0,0))∧cur.size ≠ 0:=by
    obtain ⟨_,h2⟩:=h
    rcases h2 with ⟨h0,_⟩ | ⟨g',cap',cur,hv,_,hg,q1,q2,q3,_⟩
    · cases h0
    · injection hv with h1 h2 h3
      injection h1 with h1
      injection h1 with h1
      subst h1; subst h3
      exact ⟨cur, hg, by rw [q3]; have : 0 < cap := by omega
                         omega⟩
  have hov:∀ lb cb,(callFunc 165 #[.slice (some ⟨vb,0,none⟩) 1 1,.slice (some ⟨g,i + 1,none⟩) lb cb]).run Tryz.prog w=.ok (.value (.bool false)) w:=fun lb cb=>by
    rw [run_callFunc_extern Tryz.func165 (by kernel_rfl) (by kernel_rfl) (by kernel_rfl) (e:=Extern.SlicesOverlaps.overlaps #[22,22] #[4]) (by kernel_rfl),
      Lib.run_overlaps_apart w 22 4 9 t24 1 Tryz.sizeOf9 ⟨vb,0,none⟩ ⟨g,i + 1,none⟩ 1 1 lb cb hne 9 9 1 curg.size (by simp [World.shape?,hv,hyl]) (by simp [World.shape?,hcurg]) hcurs (by simp [World.frozen?,hv]) (by simp [World.frozen?,hv])]
    rfl
  have mixed:Tryz.prog.follows .mixedOrders=true:=by kernel_rfl
  have hz2:¬ ((i:Int)=(n:Int)):=by omega
  have hw1:IntKind.i64.wrap ((i:Int) + 1)=(i:Int) + 1:=by rw [IntKind.wrap_i64]; omega
  have hb1:(0:Int)≤(i:Int) + 1:=by omega
  have hin:i≤n:=by omega
  have htn:((i:Int) + 1).toNat=i + 1:=by omega
  have hb2:¬ (cap=i + 1):=by omega
  have hb3:(i:Int)≤(n:Int) + 1:=by omega
  have hb4:¬ (cap=i):=by omega
  have hcp1:∀ ty dc sc,(Builtin.copy_ #[22,22] ty #[.slice (some ⟨g,i + 1,none⟩) (n - i) dc,.slice (some ⟨g,i,none⟩) (n + 1 - i) sc]).run Tryz.prog w.drew=.ok (goInt (n - i:Nat)) (w.drew.setCells g (i + 1) (xs.drop (i))):=fun ty dc sc =>
    run_copy_s w.drew _ _ ty 9 g (i + 1) (n - i) dc ⟨g, i, none⟩ (n + 1 - i) sc 1 (xs.drop (i)) t24 hsz (n - i) (by simp only [Nat.min_def]; split <;> omega) hdl
      (fun j v hj=>by rw [Addr.add_lit]; exact hxc _ v (by rwa [List.getElem?_drop] at hj))
      (fun j hj=>by obtain ⟨u,hu2,_⟩:=hcells (i + 1 + j) (by rw [hdl] at hj; omega); exact (congrArg Option.isSome hu2).trans rfl)
      (fun j hj=>by obtain ⟨u,_,hf⟩:=hcells (i + 1 + j) (by rw [hdl] at hj; omega); exact hf) (fun v hv=>h1x v (List.mem_of_mem_drop hv))
  obtain ⟨W1,hW1⟩:∃ W1,W1=w.drew.setCells g (i + 1) (xs.drop (i)):=⟨_,rfl⟩
  have hd0:w.drew.ownsRow 0 9 1 (.slice (some ⟨g,0,none⟩) (n + 1) cap) (n + 1) (xs ++ junk):=hext
  have H1:=own_sets (xs.drop (i)) (i + 1) w.drew (xs ++ junk) hd0 (by rw [List.length_append,hdl,hjl,hlen]; omega)
  rw [← hW1] at H1
  have hcp2:∀ (W:World),(∀ x,W.cell? x=W1.cell? x)→(∀ x,W.frozen? x=W1.frozen? x)→∀ ty dc,(Builtin.copy_ #[22,22] ty #[.slice (some ⟨g,i,none⟩) (n + 1 - i) dc,.slice (some ⟨vb,0,none⟩) 1 1]).run Tryz.prog W=.ok (goInt (1:Nat)) (W.setCells g (i) ys):=fun W hWc hWf ty dc =>
    run_copy_s W _ _ ty 9 g (i) (n + 1 - i) dc ⟨vb, 0, none⟩ 1 1 1 ys t24 hsz 1 (by simp only [Nat.min_def]; split <;> omega) (by rw [hyl])
      (fun j v hj=>by
        rw [Addr.add_lit,Nat.zero_add,hWc,hW1,World.cell?_setCells_out g _ _ _ _ (fun h _=>absurd h hne)]
        exact hyc j v hj)
      (fun j hj=>by rw [hWc]; obtain ⟨u,hu2,_⟩:=own_at H1 (i + j) (by rw [H1.1]; omega); exact (congrArg Option.isSome hu2).trans rfl)
      (fun j hj=>by rw [hWf]; obtain ⟨u,_,hf⟩:=own_at H1 (i + j) (by rw [H1.1]; omega); exact hf) h1y
  rw [← hW1] at hcp1
  have HFIN:(W1.setCells g (i) ys).ownsRow 0 9 1 (.slice (some ⟨g,0,none⟩) (n + 1) cap) (n + 1) (xs.take (i) ++ ys ++ xs.drop (i)):=by
    have H2:=own_sets ys (i) W1 _ H1 (by rw [H1.1,hyl]; omega)
    have e:(List.take (i) (List.take (i + 1) (xs ++ junk) ++ List.drop (i) xs ++ List.drop (i + 1 + (List.drop (i) xs).length) (xs ++ junk)) ++ ys ++ List.drop (i + ys.length) (List.take (i + 1) (xs ++ junk) ++ List.drop (i) xs ++ List.drop (i + 1 + (List.drop (i) xs).length) (xs ++ junk)))=xs.take (i) ++ ys ++ xs.drop (i):=by
      have ht:(List.take (i + 1) (xs ++ junk)).length=i + 1:=by rw [List.length_take,List.length_append,hjl,hlen]; omega
      rw [List.drop_of_length_le (i:=i + 1 + _) (by rw [List.length_append,hdl,hjl,hlen]; omega),List.append_nil]
      rw [List.take_append_of_le_length (by rw [ht]; omega),List.take_take,Nat.min_eq_left (by omega),List.take_append_of_le_length (by omega:i≤xs.length)]
      rw [hyl]
      first
        | rw [List.drop_left' (by rw [ht]; omega)]
        | rw [List.drop_left' ht]
    rw [e] at H2
    exact H2
  have HCH:Chg (fun k=>k=g) w (W1.setCells g (i) ys):=by
    rw [hW1]
    exact (Chg.of_same (S:=fun k=>k=g) ((Below.refl w.heap.size w).drew)).trans ((chg_sets _ _ _ _).trans (chg_sets _ _ _ _))
  have HW:=Lib.hid hW1
  have HH:=Lib.hid HFIN
  have HC:=Lib.hid HCH
  clear hW1 HFIN HCH H1 hd0 hext hcells hxc hyc hcurg hcurs h h1x h1y hv hcap hlen hdl hpos
  go_enter Tryz.func129,Tryz.ntmps129
  go_wp2_with (simp only [hov])
  go_region_law_o (refine step_copy_runI rfl _ _ 22 22 rfl _ _ (by simp [Act.eval,Act.put]) (by simp [Act.eval,Act.put]) (hcp1 _ _ _) ?_)
  go_wp2_with (at_builtin; refine wpList_copy_runI _ rfl _ _ 22 22 rfl _ _ rfl rfl (hcp2 _ (fun _=>rfl) (fun _=>rfl) _ _) ?_)
  go_ret
  exact ⟨rfl,HH.out,HC.out⟩
set_option maxHeartbeats 4000000 in
set_option maxRecDepth 1000000 in
theorem insS_end (n:Nat) (v:Value) (xs ys:List Value) (vb:Nat) (w:World) (h:w.ownsRow 0 9 1 v n xs) (hn:n≤1099511627776) (h1y:∀ u ∈ ys,u.oneCell'=true) (hyl:ys.length=1) (hv:w.heap[vb]?=some (.cells ys.toArray 9 (0,0))) :
    Calls Tryz.prog 129 #[v,.int .i64 n,.slice (some ⟨vb,0,none⟩) 1 1] w fun e w'=>∃ v',e=.returned v'∧w'.ownsRow 0 9 1 v' (n + 1) (xs ++ ys)∧Chg (fun k=>v.ownBlock=some k) w w'∧(v'.ownBlock=v.ownBlock ∨ v'.ownBlock=some w.heap.size):=by
  have hu:=Tryz.underlying9
  have t24:=Tryz.underlying22
  have z3:=Tryz.sizeOf9
  obtain ⟨i0,hi0,hz0,hzs,hzb⟩:=info_parts info9
  have hyc:∀ (j:Nat) (v:Value),ys[j]?=some v→w.cell? ((⟨vb,0,none⟩:Addr).add j)=some v:=fun j v hj=>by rw [Addr.add_lit,Nat.zero_add,blk_cell hv]; simpa using hj
  have mixed:Tryz.prog.follows .mixedOrders=true:=by kernel_rfl
  have H:=Lib.hid h
  have HY:=Lib.hid hyc
  have H1:=Lib.hid h1y
  have hf:v=.slice none 0 0∧n=0 ∨ ∃ g cap,v=.slice (some ⟨g,0,none⟩) n cap∧n≤cap∧cap≤9223372036854775807:=by
    rcases h.2 with h0 | ⟨g,cap,cur,e,_,_,q1,q2,_⟩
    · exact .inl h0
    · exact .inr ⟨g,cap,e,q1,q2⟩
  clear h hyc h1y hv
  rcases hf with ⟨rfl,rfl⟩ | ⟨g,cap,rfl,hq1,hq2⟩
  all_goals
    go_enter Tryz.func129,Tryz.ntmps129
    go_wp2_with (at_builtin; refine wpList_append_own_at _ rfl _ _ 22 rfl 0 9 i0 _ 1 16 t24 hi0 hz0 hzs hzb rfl (by decide) _ _ xs rfl H.out ⟨vb,0,none⟩ 1 1 ys rfl (by rw [hyl]) HY.out H1.out (by unfold maxLen; omega) (by omega) (Nat.zero_le _) ?_; intro v1 w1 ho hg _ hat; have HO:=Lib.hid ho; have HG:=Lib.hid hg; have HAT:=Lib.hid hat; clear ho hg hat)
    all_goals (go_ret; exact ⟨_,rfl,HO.out,Chg.grown HG.out (fun k e=>e),HAT.out⟩)
set_option maxHeartbeats 4000000 in
set_option maxRecDepth 1000000 in
theorem insS_grow (g n i:Nat) (xs ys:List Value) (vb:Nat) (w:World) (h:w.ownsRow 0 9 1 (.slice (some ⟨g,0,none⟩) n n) n xs) (hi:i<n) (hn:n≤1099511627776) (h1x:∀ u ∈ xs,u.oneCell'=true) (h1y:∀ u ∈ ys,u.oneCell'=true) (hyl:ys.length=1) (hv:w.heap[vb]?=some (.cells ys.toArray 9 (0,0))) :
    Calls Tryz.prog 129 #[.slice (some ⟨g,0,none⟩) n n,.int .i64 i,.slice (some ⟨vb,0,none⟩) 1 1] w fun e w'=>∃ v',e=.returned v'∧w'.ownsRow 0 9 1 v' (n + 1) (xs.take (i) ++ ys ++ xs.drop (i))∧Chg (fun _=>False) w w'∧v'.ownBlock=some w.heap.size:=by
  have hu:=Tryz.underlying9
  have t24:=Tryz.underlying22
  have t3:=Tryz.underlying3
  have z3:=Tryz.sizeOf9
  obtain ⟨i0,hi0,hz0,hzs,hzb⟩:=info_parts info9
  have hsz:(Tryz.prog.info? 9).map (·.size)=some 1:=by rw [hi0]; simp [hzs]
  have hlen:xs.length=n:=by have:=h.1; simpa using this
  have hdl:(xs.drop (i)).length=(n - i)*1:=by rw [List.length_drop,hlen]; omega
  have hbw:g<w.heap.size:=(h.lt g rfl).2
  have hvw:vb<w.heap.size:=blk_lt hv
  have hxc:∀ (j:Nat) (v:Value),xs[j]?=some v→w.cell? ⟨g,j,none⟩=some v:=fun j v hj=>own_cell h hj
  have hyc:∀ (j:Nat) (v:Value),ys[j]?=some v→w.cell? ⟨vb,j,none⟩=some v:=fun j v hj=>by rw [blk_cell hv]; simpa using hj
  have mixed:Tryz.prog.follows .mixedOrders=true:=by kernel_rfl
  have hz2:¬ ((i:Int)=(n:Int)):=by omega
  have hz3:(n:Int)<(n:Int) + 1:=by omega
  have hkk:(n:Int) + 1 - (i:Int)=((n + 1 - i:Nat):Int):=by omega
  have hik:i + (n + 1 - i)=n + 1:=by omega
  have htl:(xs.take (i)).length=i*1:=by rw [List.length_take,hlen]; omega
  have hold:(Builtin.firstCells i0.size i (.slice (some ⟨g,0,none⟩) i n)).run Tryz.prog w.drew=.ok (xs.take (i)).toArray w.drew:=by
    rw [hzs]
    exact run_firstCells_some w.drew 1 i ⟨g,0,none⟩ i n (xs.take (i)) htl (fun j v hj=>by
      rw [Addr.add_lit,Nat.zero_add]
      rw [List.getElem?_take] at hj
      split at hj
      · exact hxc j v hj
      · cases hj)
  obtain ⟨G,hG⟩:∃ G,G=grownCap w (n + 1) n 9:=⟨_,rfl⟩
  have hGn:n + 1≤G:=by rw [hG]; exact grownCap_ge w _ _ _
  have hGm:G≤maxLen:=by
    rw [hG]
    exact grownCap_le_maxLen w (n + 1) n 9 (by unfold maxLen; omega)
  have hG63:G≤9223372036854775807:=hGm
  obtain ⟨Z,hZ⟩:∃ Z:Nat→Array Value,Z=Builtin.zeroCells ((.string ⟨#[]⟩):Value).cells:=⟨_,rfl⟩
  have hZs:∀ k,(Z k).size=k*1:=fun k=>by rw [hZ,size_zeroCells]; rfl
  have hrz : ∀ ty, (Builtin.append_ #[22, 3] ty #[.slice (some ⟨g, 0, none⟩) i n, .int .i64 ((n : Int) + 1 - (i : Int))]).run Tryz.prog w =
      .ok (.slice (some ⟨w.heap.size,0,none⟩) (n + 1) G) (w.drew.alloc (.cells ((xs.take (i)).toArray ++ Z (n + 1 - i) ++ Z (G - (n + 1))) 9)):=fun ty=>by
    have h:=Lib.run_append_grow_zeros w 22 3 ty 9 i0 _ .i64 .i64 t24 t3 hi0 hz0 (some ⟨g,0,none⟩) i n (xs.take (i)) hold (n + 1 - i) (by omega) (by omega) (by omega) (by omega) (by rw [hzb]; omega) (by rw [hzb,hik]; exact growslice_fits (by omega) (by omega))
    rw [hik,← hG] at h
    rw [hkk,hZ]
    exact h
  obtain ⟨ROW,hROW⟩:∃ ROW:Array Value,ROW=(xs.take (i)).toArray ++ Z (n + 1 - i) ++ Z (G - (n + 1)):=⟨_,rfl⟩
  rw [← hROW] at hrz
  have hRs:ROW.size=G*1:=by
    rw [hROW]
    simp only [Array.size_append,List.size_toArray,hZs,htl]
    omega
  obtain ⟨W1,hW1⟩:∃ W1,W1=w.drew.alloc (.cells ROW 9):=⟨_,rfl⟩
  have hzl:(Z (n + 1 - i)).toList.length=(n + 1 - i)*1:=by rw [Array.length_toList,hZs]
  have H0:W1.ownsRow 0 9 1 (.slice (some ⟨w.heap.size,0,none⟩) (n + 1) G) (n + 1) (xs.take (i) ++ (Z (n + 1 - i)).toList):=by
    rw [hW1]
    refine ⟨by rw [List.length_append,htl,hzl]; omega,.inr ⟨w.heap.size,G,ROW,rfl,Nat.zero_le _,heap_alloc_new w.drew _,hGn,hGm,hRs,?_⟩⟩
    rw [hROW]
    simp only [Array.toList_append]
    rw [List.take_append_of_le_length (by rw [List.length_append,htl,hzl]; omega),List.take_of_length_le (by rw [List.length_append,htl,hzl]; omega)]
  rw [← hW1] at hrz
  have hNc:∀ j,j<(n + 1)*1→(W1.cell? ⟨w.heap.size,j,none⟩).isSome=true:=fun j hj=>by
    obtain ⟨u,hu2,_⟩:=own_at H0 j (by rw [H0.1]; exact hj)
    exact (congrArg Option.isSome hu2).trans rfl
  have hNf:∀ j,W1.frozen? ⟨w.heap.size,j,none⟩=false:=fun j=>own_free H0 j
  have hOb:∀ j v,w.cell? ⟨g,j,none⟩=some v→W1.cell? ⟨g,j,none⟩=some v:=fun j v h=>by rw [hW1,World.cell?_alloc_past (w:=w.drew) _ g j hbw]; exact h
  have hOv:∀ j v,w.cell? ⟨vb,j,none⟩=some v→W1.cell? ⟨vb,j,none⟩=some v:=fun j v h=>by rw [hW1,World.cell?_alloc_past (w:=w.drew) _ vb j hvw]; exact h
  have hcpA:∀ (W:World),(∀ x,W.cell? x=W1.cell? x)→(∀ x,W.frozen? x=W1.frozen? x)→∀ ty dc,(Builtin.copy_ #[22,22] ty #[.slice (some ⟨w.heap.size,i,none⟩) (n + 1 - i) dc,.slice (some ⟨vb,0,none⟩) 1 1]).run Tryz.prog W=.ok (goInt (1:Nat)) (W.setCells w.heap.size (i) ys):=fun W hWc hWf ty dc =>
    run_copy_s W _ _ ty 9 w.heap.size (i) (n + 1 - i) dc ⟨vb, 0, none⟩ 1 1 1 ys t24 hsz 1 (by simp only [Nat.min_def]; split <;> omega) (by rw [hyl])
      (fun j v hj=>by rw [Addr.add_lit,Nat.zero_add,hWc]; exact hOv _ v (hyc j v hj))
      (fun j hj=>by rw [hWc]; exact hNc _ (by omega)) (fun j hj=>by rw [hWf]; exact hNf _) h1y
  have H1:=own_sets ys (i) W1 _ H0 (by rw [H0.1,hyl]; omega)
  have e1:List.take (i) (List.take (i) xs ++ (Z (n + 1 - i)).toList) ++ ys ++ List.drop (i + ys.length) (List.take (i) xs ++ (Z (n + 1 - i)).toList)=(List.take (i) xs ++ ys) ++ (Z (n + 1 - i)).toList.drop 1:=by
    have ea:List.take (i) (List.take (i) xs ++ (Z (n + 1 - i)).toList)=List.take (i) xs:=List.take_left' (by rw [htl] <;> omega)
    have eb:List.drop (i + ys.length) (List.take (i) xs ++ (Z (n + 1 - i)).toList)=(Z (n + 1 - i)).toList.drop 1:=by
      rw [List.drop_append,List.drop_of_length_le (l:=List.take (i) xs) (by rw [htl]; omega),List.nil_append,htl,hyl]
      congr 1
      omega
    rw [ea,eb]
  rw [e1] at H1
  have hcpB:∀ (W:World),(∀ x,W.cell? x=(W1.setCells w.heap.size (i) ys).cell? x)→(∀ x,W.frozen? x=(W1.setCells w.heap.size (i) ys).frozen? x)→∀ ty dc sc,(Builtin.copy_ #[22,22] ty #[.slice (some ⟨w.heap.size,i + 1,none⟩) (n - i) dc,.slice (some ⟨g,i,none⟩) (n - i) sc]).run Tryz.prog W=.ok (goInt (n - i:Nat)) (W.setCells w.heap.size (i + 1) (xs.drop (i))):=fun W hWc hWf ty dc sc =>
    run_copy_s W _ _ ty 9 w.heap.size (i + 1) (n - i) dc ⟨g, i, none⟩ (n - i) sc 1 (xs.drop (i)) t24 hsz (n - i) (by simp only [Nat.min_def]; split <;> omega) hdl
      (fun j v hj=>by
        rw [Addr.add_lit,hWc,World.cell?_setCells_out _ _ _ _ _ (fun h _=>absurd h (Nat.ne_of_lt hbw))]
        exact hOb _ v (hxc _ v (by rwa [List.getElem?_drop] at hj)))
      (fun j hj=>by rw [hWc]; obtain ⟨u,hu2,_⟩:=own_at H1 (i + 1 + j) (by rw [H1.1]; omega); exact (congrArg Option.isSome hu2).trans rfl)
      (fun j hj=>by rw [hWf]; obtain ⟨u,_,hf⟩:=own_at H1 (i + 1 + j) (by rw [H1.1]; omega); exact hf) (fun v hv=>h1x v (List.mem_of_mem_drop hv))
  have hec:List.drop (i + 1 + (List.drop (i) xs).length) ((List.take (i) xs ++ ys) ++ (Z (n + 1 - i)).toList.drop 1)=[]:=List.drop_of_length_le (by rw [List.length_append,List.length_append,htl,hyl,List.length_drop,hzl,hdl]; omega)
  have hed:List.take (i + 1) ((List.take (i) xs ++ ys) ++ (Z (n + 1 - i)).toList.drop 1)=List.take (i) xs ++ ys:=List.take_left' (by rw [List.length_append,htl,hyl]; omega)
  have KF:∀ W:World,W.ownsRow 0 9 1 (.slice (some ⟨w.heap.size,0,none⟩) (n + 1) G) (n + 1) (xs.take (i) ++ (Z (n + 1 - i)).toList)→((W.setCells w.heap.size (i) ys).setCells w.heap.size (i + 1) (xs.drop (i))).ownsRow 0 9 1 (.slice (some ⟨w.heap.size,0,none⟩) (n + 1) G) (n + 1) (List.take (i) xs ++ ys ++ List.drop (i) xs):=fun W K0=>by
    have K1:=own_sets ys (i) W _ K0 (by rw [K0.1,hyl]; omega)
    rw [e1] at K1
    have K2:=own_sets (xs.drop (i)) (i + 1) _ _ K1 (by rw [K1.1,hdl]; omega)
    rw [hec,hed,List.append_nil] at K2
    exact K2
  have K0:(w.alloc (.cells ROW 9)).drew.drew.ownsRow 0 9 1 (.slice (some ⟨w.heap.size,0,none⟩) (n + 1) G) (n + 1) (xs.take (i) ++ (Z (n + 1 - i)).toList):=by
    rw [hW1] at H0
    exact H0
  have H2:=KF _ K0
  have HCH:Chg (fun _=>False) w (((w.alloc (.cells ROW 9)).drew.drew.setCells w.heap.size (i) ys).setCells w.heap.size (i + 1) (xs.drop (i))):=by
    have h1:Chg (fun k=>k=w.heap.size) w (((w.alloc (.cells ROW 9)).drew.drew.setCells w.heap.size (i) ys).setCells w.heap.size (i + 1) (xs.drop (i))) :=
      (Chg.of_same (S:=fun k=>k=w.heap.size) ((Below.refl w.heap.size w).alloc (Nat.le_refl _) _).drew.drew).trans ((chg_sets _ _ _ _).trans (chg_sets _ _ _ _))
    exact h1.mono (fun k hk e=>by omega)
  have HH:=Lib.hid H2
  have HC:=Lib.hid HCH
  subst hW1
  have hE1:∀ x,((w.alloc (.cells ROW 9)).drew).cell? x=(w.drew.alloc (.cells ROW 9)).cell? x:=fun x=>rfl
  have hE2:∀ x,((w.alloc (.cells ROW 9)).drew).frozen? x=(w.drew.alloc (.cells ROW 9)).frozen? x:=fun x=>rfl
  have hF1:∀ x,(((w.alloc (.cells ROW 9)).drew.setCells w.heap.size (i) ys).drew).cell? x=((w.drew.alloc (.cells ROW 9)).setCells w.heap.size (i) ys).cell? x:=fun x=>rfl
  have hF2:∀ x,(((w.alloc (.cells ROW 9)).drew.setCells w.heap.size (i) ys).drew).frozen? x=((w.drew.alloc (.cells ROW 9)).setCells w.heap.size (i) ys).frozen? x:=fun x=>rfl
  have hw1:IntKind.i64.wrap ((i:Int) + 1)=(i:Int) + 1:=by rw [IntKind.wrap_i64]; omega
  have hb1:(0:Int)≤(i:Int) + 1:=by omega
  have hin:i≤n:=by omega
  have htn:((i:Int) + 1).toNat=i + 1:=by omega
  have hb3:(i:Int)≤(n:Int):=by omega
  have hGi:¬ (G=i):=by omega
  have hGim:¬ (G=i + 1):=by omega
  have hci:¬ (n=i):=by omega
  clear hkk hik hold hROW hG hZ hZs H0 H1 H2 e1 hec hed KF K0 hNc hNf hOb hOv hzl hRs hdl htl hxc hyc h h1x h1y hv hlen HCH
  go_enter Tryz.func129,Tryz.ntmps129
  go_wp2_with (first
    | (at_builtin; refine Lib.wpList_append_run _ rfl _ _ _ _ rfl _ _ rfl rfl _ _ (hrz _) ?_)
    | (at_builtin; refine wpList_copy_runI _ rfl _ _ 22 22 rfl _ _ rfl rfl (hcpA _ hE1 hE2 _ _) ?_)
    | (at_builtin; refine wpList_copy_runI _ rfl _ _ 22 22 rfl _ _ rfl rfl (hcpB _ (fun _=>rfl) (fun _=>rfl) _ _ _) ?_))
  go_region_law_o (refine step_copy_runI rfl _ _ 22 22 rfl (.slice (some ⟨w.heap.size,i + 1,none⟩) (n - i) (G - (i + 1))) (.slice (some ⟨g,i,none⟩) (n - i) (n - i)) (by simp [Act.eval,Act.put]) (by simp [Act.eval,Act.put]) (hcpB _ hF1 hF2 3 (G - (i + 1)) (n - i)) ?_)
  go_wp2
  go_ret
  rw [drew_setCells]
  exact ⟨_,rfl,HH.out,HC.out,rfl⟩
set_option maxHeartbeats 4000000 in
set_option maxRecDepth 1000000 in
theorem insN_shift (g n cap i:Nat) (xs ys:List Value) (vb:Nat) (w:World) (h:w.ownsRow 0 32 5 (.slice (some ⟨g,0,none⟩) n cap) n xs) (hi:i<n) (hn:n≤1099511627776) (hroom:n + 1≤cap) (h1x:∀ u ∈ xs,u.oneCell'=true) (h1y:∀ u ∈ ys,u.oneCell'=true) (hyl:ys.length=5) (hv:w.heap[vb]?=some (.cells ys.toArray 32 (0,0))) (hne:vb ≠ g) :
    Calls Tryz.prog 130 #[.slice (some ⟨g,0,none⟩) n cap,.int .i64 i,.slice (some ⟨vb,0,none⟩) 1 1] w fun e w'=>e=.returned (.slice (some ⟨g,0,none⟩) (n + 1) cap)∧w'.ownsRow 0 32 5 (.slice (some ⟨g,0,none⟩) (n + 1) cap) (n + 1) (xs.take (i*5) ++ ys ++ xs.drop (i*5))∧Chg (fun k=>k=g) w w':=by
  have hu:=Tryz.underlying32
  have t24:=Tryz.underlying30
  obtain ⟨i0,hi0,hz0,hzs,hzb⟩:=info_parts info32
  have hsz:(Tryz.prog.info? 32).map (·.size)=some 5:=by rw [hi0]; simp [hzs]
  have hlen:xs.length=n*5:=by have:=h.1; simpa using this
  have hcap:cap≤maxLen:=by
    obtain ⟨_,h2⟩:=h
    rcases h2 with ⟨h0,_⟩ | ⟨g',cap',cur,hv,_,_,q1,q2,_⟩
    · cases h0
    · injection hv with _ _ q3
      exact q3 ▸ q2
  have hcap2:cap≤9223372036854775807:=hcap
  obtain ⟨junk,hjl,hext⟩:=own_extend h hroom
  have hdl:(xs.drop (i*5)).length=(n - i)*5:=by rw [List.length_drop,hlen]; omega
  have hpos:0<(n + 1)*5:=by omega
  have hcells:=fun (j:Nat) (hj:j<(n + 1)*5)=>own_at hext j (by rw [hext.1]; exact hj)
  have hxc:∀ (j:Nat) (v:Value),xs[j]?=some v→w.cell? ⟨g,j,none⟩=some v:=fun j v hj=>own_cell h hj
  have hyc:∀ (j:Nat) (v:Value),ys[j]?=some v→w.cell? ⟨vb,j,none⟩=some v:=fun j v hj=>by rw [blk_cell hv]; simpa using hj
  obtain ⟨curg,hcurg,hcurs⟩:∃ cur:Array Value,w.heap[g]?=some (.cells cur 32 (0,0))∧cur.size ≠ 0:=by
    obtain ⟨_,h2⟩:=h
    rcases h2 with ⟨h0,_⟩ | ⟨g',cap',cur,hv,_,hg,q1,q2,q3,_⟩
    · cases h0
    · injection hv with h1 h2 h3
      injection h1 with h1
      injection h1 with h1
      subst h1; subst h3
      exact ⟨cur, hg, by rw [q3]; have : 0 < cap := by omega
                         omega⟩
  have hov:∀ lb cb,(callFunc 167 #[.slice (some ⟨vb,0,none⟩) 1 1,.slice (some ⟨g,(i + 1)*5,none⟩) lb cb]).run Tryz.prog w=.ok (.value (.bool false)) w:=fun lb cb=>by
    rw [run_callFunc_extern Tryz.func167 (by kernel_rfl) (by kernel_rfl) (by kernel_rfl) (e:=Extern.SlicesOverlaps.overlaps #[30,30] #[4]) (by kernel_rfl),
      Lib.run_overlaps_apart w 30 4 32 t24 5 Tryz.sizeOf32 ⟨vb,0,none⟩ ⟨g,(i + 1)*5,none⟩ 1 1 lb cb hne 32 32 5 curg.size (by simp [World.shape?,hv,hyl]) (by simp [World.shape?,hcurg]) hcurs (by simp [World.frozen?,hv]) (by simp [World.frozen?,hv])]
    rfl
  have mixed:Tryz.prog.follows .mixedOrders=true:=by kernel_rfl
  have hz2:¬ ((i:Int)=(n:Int)):=by omega
  have hw1:IntKind.i64.wrap ((i:Int) + 1)=(i:Int) + 1:=by rw [IntKind.wrap_i64]; omega
  have hb1:(0:Int)≤(i:Int) + 1:=by omega
  have hin:i≤n:=by omega
  have htn:((i:Int) + 1).toNat=i + 1:=by omega
  have hb2:¬ (cap=i + 1):=by omega
  have hb3:(i:Int)≤(n:Int) + 1:=by omega
  have hb4:¬ (cap=i):=by omega
  have hcp1:∀ ty dc sc,(Builtin.copy_ #[30,30] ty #[.slice (some ⟨g,(i + 1)*5,none⟩) (n - i) dc,.slice (some ⟨g,i*5,none⟩) (n + 1 - i) sc]).run Tryz.prog w.drew=.ok (goInt (n - i:Nat)) (w.drew.setCells g ((i + 1)*5) (xs.drop (i*5))):=fun ty dc sc =>
    run_copy_s w.drew _ _ ty 32 g ((i + 1) * 5) (n - i) dc ⟨g, i * 5, none⟩ (n + 1 - i) sc 5 (xs.drop (i * 5)) t24 hsz (n - i) (by simp only [Nat.min_def]; split <;> omega) hdl
      (fun j v hj=>by rw [Addr.add_lit]; exact hxc _ v (by rwa [List.getElem?_drop] at hj))
      (fun j hj=>by obtain ⟨u,hu2,_⟩:=hcells ((i + 1)*5 + j) (by rw [hdl] at hj; omega); exact (congrArg Option.isSome hu2).trans rfl)
      (fun j hj=>by obtain ⟨u,_,hf⟩:=hcells ((i + 1)*5 + j) (by rw [hdl] at hj; omega); exact hf) (fun v hv=>h1x v (List.mem_of_mem_drop hv))
  obtain ⟨W1,hW1⟩:∃ W1,W1=w.drew.setCells g ((i + 1)*5) (xs.drop (i*5)):=⟨_,rfl⟩
  have hd0:w.drew.ownsRow 0 32 5 (.slice (some ⟨g,0,none⟩) (n + 1) cap) (n + 1) (xs ++ junk):=hext
  have H1:=own_sets (xs.drop (i*5)) ((i + 1)*5) w.drew (xs ++ junk) hd0 (by rw [List.length_append,hdl,hjl,hlen]; omega)
  rw [← hW1] at H1
  have hcp2:∀ (W:World),(∀ x,W.cell? x=W1.cell? x)→(∀ x,W.frozen? x=W1.frozen? x)→∀ ty dc,(Builtin.copy_ #[30,30] ty #[.slice (some ⟨g,i*5,none⟩) (n + 1 - i) dc,.slice (some ⟨vb,0,none⟩) 1 1]).run Tryz.prog W=.ok (goInt (1:Nat)) (W.setCells g (i*5) ys):=fun W hWc hWf ty dc =>
    run_copy_s W _ _ ty 32 g (i * 5) (n + 1 - i) dc ⟨vb, 0, none⟩ 1 1 5 ys t24 hsz 1 (by simp only [Nat.min_def]; split <;> omega) (by rw [hyl])
      (fun j v hj=>by
        rw [Addr.add_lit,Nat.zero_add,hWc,hW1,World.cell?_setCells_out g _ _ _ _ (fun h _=>absurd h hne)]
        exact hyc j v hj)
      (fun j hj=>by rw [hWc]; obtain ⟨u,hu2,_⟩:=own_at H1 (i*5 + j) (by rw [H1.1]; omega); exact (congrArg Option.isSome hu2).trans rfl)
      (fun j hj=>by rw [hWf]; obtain ⟨u,_,hf⟩:=own_at H1 (i*5 + j) (by rw [H1.1]; omega); exact hf) h1y
  rw [← hW1] at hcp1
  have HFIN:(W1.setCells g (i*5) ys).ownsRow 0 32 5 (.slice (some ⟨g,0,none⟩) (n + 1) cap) (n + 1) (xs.take (i*5) ++ ys ++ xs.drop (i*5)):=by
    have H2:=own_sets ys (i*5) W1 _ H1 (by rw [H1.1,hyl]; omega)
    have e:(List.take (i*5) (List.take ((i + 1)*5) (xs ++ junk) ++ List.drop (i*5) xs ++ List.drop ((i + 1)*5 + (List.drop (i*5) xs).length) (xs ++ junk)) ++ ys ++ List.drop (i*5 + ys.length) (List.take ((i + 1)*5) (xs ++ junk) ++ List.drop (i*5) xs ++ List.drop ((i + 1)*5 + (List.drop (i*5) xs).length) (xs ++ junk)))=xs.take (i*5) ++ ys ++ xs.drop (i*5):=by
      have ht:(List.take ((i + 1)*5) (xs ++ junk)).length=(i + 1)*5:=by rw [List.length_take,List.length_append,hjl,hlen]; omega
      rw [List.drop_of_length_le (i:=(i + 1)*5 + _) (by rw [List.length_append,hdl,hjl,hlen]; omega),List.append_nil]
      rw [List.take_append_of_le_length (by rw [ht]; omega),List.take_take,Nat.min_eq_left (by omega),List.take_append_of_le_length (by omega:i*5≤xs.length)]
      rw [hyl]
      first
        | rw [List.drop_left' (by rw [ht]; omega)]
        | rw [List.drop_left' ht]
    rw [e] at H2
    exact H2
  have HCH:Chg (fun k=>k=g) w (W1.setCells g (i*5) ys):=by
    rw [hW1]
    exact (Chg.of_same (S:=fun k=>k=g) ((Below.refl w.heap.size w).drew)).trans ((chg_sets _ _ _ _).trans (chg_sets _ _ _ _))
  have HW:=Lib.hid hW1
  have HH:=Lib.hid HFIN
  have HC:=Lib.hid HCH
  clear hW1 HFIN HCH H1 hd0 hext hcells hxc hyc hcurg hcurs h h1x h1y hv hcap hlen hdl hpos
  go_enter Tryz.func130,Tryz.ntmps130
  go_wp2_with (simp only [hov])
  go_region_law_o (refine step_copy_runI rfl _ _ 30 30 rfl _ _ (by simp [Act.eval,Act.put]) (by simp [Act.eval,Act.put]) (hcp1 _ _ _) ?_)
  go_wp2_with (at_builtin; refine wpList_copy_runI _ rfl _ _ 30 30 rfl _ _ rfl rfl (hcp2 _ (fun _=>rfl) (fun _=>rfl) _ _) ?_)
  go_ret
  exact ⟨rfl,HH.out,HC.out⟩
set_option maxHeartbeats 4000000 in
set_option maxRecDepth 1000000 in
theorem insN_end (n:Nat) (v:Value) (xs ys:List Value) (vb:Nat) (w:World) (h:w.ownsRow 0 32 5 v n xs) (hn:n≤1099511627776) (h1y:∀ u ∈ ys,u.oneCell'=true) (hyl:ys.length=5) (hv:w.heap[vb]?=some (.cells ys.toArray 32 (0,0))) :
    Calls Tryz.prog 130 #[v,.int .i64 n,.slice (some ⟨vb,0,none⟩) 1 1] w fun e w'=>∃ v',e=.returned v'∧w'.ownsRow 0 32 5 v' (n + 1) (xs ++ ys)∧Chg (fun k=>v.ownBlock=some k) w w'∧(v'.ownBlock=v.ownBlock ∨ v'.ownBlock=some w.heap.size):=by
  have hu:=Tryz.underlying32
  have t24:=Tryz.underlying30
  have z3:=Tryz.sizeOf32
  obtain ⟨i0,hi0,hz0,hzs,hzb⟩:=info_parts info32
  have hyc:∀ (j:Nat) (v:Value),ys[j]?=some v→w.cell? ((⟨vb,0,none⟩:Addr).add j)=some v:=fun j v hj=>by rw [Addr.add_lit,Nat.zero_add,blk_cell hv]; simpa using hj
  have mixed:Tryz.prog.follows .mixedOrders=true:=by kernel_rfl
  have H:=Lib.hid h
  have HY:=Lib.hid hyc
  have H1:=Lib.hid h1y
  have hf:v=.slice none 0 0∧n=0 ∨ ∃ g cap,v=.slice (some ⟨g,0,none⟩) n cap∧n≤cap∧cap≤9223372036854775807:=by
    rcases h.2 with h0 | ⟨g,cap,cur,e,_,_,q1,q2,_⟩
    · exact .inl h0
    · exact .inr ⟨g,cap,e,q1,q2⟩
  clear h hyc h1y hv
  rcases hf with ⟨rfl,rfl⟩ | ⟨g,cap,rfl,hq1,hq2⟩
  all_goals
    go_enter Tryz.func130,Tryz.ntmps130
    go_wp2_with (at_builtin; refine wpList_append_own_at _ rfl _ _ 30 rfl 0 32 i0 _ 5 80 t24 hi0 hz0 hzs hzb rfl (by decide) _ _ xs rfl H.out ⟨vb,0,none⟩ 1 1 ys rfl (by rw [hyl]) HY.out H1.out (by unfold maxLen; omega) (by omega) (Nat.zero_le _) ?_; intro v1 w1 ho hg _ hat; have HO:=Lib.hid ho; have HG:=Lib.hid hg; have HAT:=Lib.hid hat; clear ho hg hat)
    all_goals (go_ret; exact ⟨_,rfl,HO.out,Chg.grown HG.out (fun k e=>e),HAT.out⟩)
set_option maxHeartbeats 4000000 in
set_option maxRecDepth 1000000 in
theorem insN_grow (g n i:Nat) (xs ys:List Value) (vb:Nat) (w:World) (h:w.ownsRow 0 32 5 (.slice (some ⟨g,0,none⟩) n n) n xs) (hi:i<n) (hn:n≤1099511627776) (h1x:∀ u ∈ xs,u.oneCell'=true) (h1y:∀ u ∈ ys,u.oneCell'=true) (hyl:ys.length=5) (hv:w.heap[vb]?=some (.cells ys.toArray 32 (0,0))) :
    Calls Tryz.prog 130 #[.slice (some ⟨g,0,none⟩) n n,.int .i64 i,.slice (some ⟨vb,0,none⟩) 1 1] w fun e w'=>∃ v',e=.returned v'∧w'.ownsRow 0 32 5 v' (n + 1) (xs.take (i*5) ++ ys ++ xs.drop (i*5))∧Chg (fun _=>False) w w'∧v'.ownBlock=some w.heap.size:=by
  have hu:=Tryz.underlying32
  have t24:=Tryz.underlying30
  have t3:=Tryz.underlying3
  have z3:=Tryz.sizeOf32
  obtain ⟨i0,hi0,hz0,hzs,hzb⟩:=info_parts info32
  have hsz:(Tryz.prog.info? 32).map (·.size)=some 5:=by rw [hi0]; simp [hzs]
  have hlen:xs.length=n*5:=by have:=h.1; simpa using this
  have hdl:(xs.drop (i*5)).length=(n - i)*5:=by rw [List.length_drop,hlen]; omega
  have hbw:g<w.heap.size:=(h.lt g rfl).2
  have hvw:vb<w.heap.size:=blk_lt hv
  have hxc:∀ (j:Nat) (v:Value),xs[j]?=some v→w.cell? ⟨g,j,none⟩=some v:=fun j v hj=>own_cell h hj
  have hyc:∀ (j:Nat) (v:Value),ys[j]?=some v→w.cell? ⟨vb,j,none⟩=some v:=fun j v hj=>by rw [blk_cell hv]; simpa using hj
  have mixed:Tryz.prog.follows .mixedOrders=true:=by kernel_rfl
  have hz2:¬ ((i:Int)=(n:Int)):=by omega
  have hz3:(n:Int)<(n:Int) + 1:=by omega
  have hkk:(n:Int) + 1 - (i:Int)=((n + 1 - i:Nat):Int):=by omega
  have hik:i + (n + 1 - i)=n + 1:=by omega
  have htl:(xs.take (i*5)).length=i*5:=by rw [List.length_take,hlen]; omega
  have hold:(Builtin.firstCells i0.size i (.slice (some ⟨g,0,none⟩) i n)).run Tryz.prog w.drew=.ok (xs.take (i*5)).toArray w.drew:=by
    rw [hzs]
    exact run_firstCells_some w.drew 5 i ⟨g,0,none⟩ i n (xs.take (i*5)) htl (fun j v hj=>by
      rw [Addr.add_lit,Nat.zero_add]
      rw [List.getElem?_take] at hj
      split at hj
      · exact hxc j v hj
      · cases hj)
  obtain ⟨G,hG⟩:∃ G,G=grownCap w (n + 1) n 32:=⟨_,rfl⟩
  have hGn:n + 1≤G:=by rw [hG]; exact grownCap_ge w _ _ _
  have hGm:G≤maxLen:=by
    rw [hG]
    exact grownCap_le_maxLen w (n + 1) n 32 (by unfold maxLen; omega)
  have hG63:G≤9223372036854775807:=hGm
  obtain ⟨Z,hZ⟩:∃ Z:Nat→Array Value,Z=Builtin.zeroCells ((.agg #[(.int .i64 0),(.int .i64 0),(.string ⟨#[]⟩),(.slice none 0 0),(.slice none 0 0)]):Value).cells:=⟨_,rfl⟩
  have hZs:∀ k,(Z k).size=k*5:=fun k=>by rw [hZ,size_zeroCells]; rfl
  have hrz : ∀ ty, (Builtin.append_ #[30, 3] ty #[.slice (some ⟨g, 0, none⟩) i n, .int .i64 ((n : Int) + 1 - (i : Int))]).run Tryz.prog w =
      .ok (.slice (some ⟨w.heap.size,0,none⟩) (n + 1) G) (w.drew.alloc (.cells ((xs.take (i*5)).toArray ++ Z (n + 1 - i) ++ Z (G - (n + 1))) 32)):=fun ty=>by
    have h:=Lib.run_append_grow_zeros w 30 3 ty 32 i0 _ .i64 .i64 t24 t3 hi0 hz0 (some ⟨g,0,none⟩) i n (xs.take (i*5)) hold (n + 1 - i) (by omega) (by omega) (by omega) (by omega) (by rw [hzb]; omega) (by rw [hzb,hik]; exact growslice_fits (by omega) (by omega))
    rw [hik,← hG] at h
    rw [hkk,hZ]
    exact h
  obtain ⟨ROW,hROW⟩:∃ ROW:Array Value,ROW=(xs.take (i*5)).toArray ++ Z (n + 1 - i) ++ Z (G - (n + 1)):=⟨_,rfl⟩
  rw [← hROW] at hrz
  have hRs:ROW.size=G*5:=by
    rw [hROW]
    simp only [Array.size_append,List.size_toArray,hZs,htl]
    omega
  obtain ⟨W1,hW1⟩:∃ W1,W1=w.drew.alloc (.cells ROW 32):=⟨_,rfl⟩
  have hzl:(Z (n + 1 - i)).toList.length=(n + 1 - i)*5:=by rw [Array.length_toList,hZs]
  have H0:W1.ownsRow 0 32 5 (.slice (some ⟨w.heap.size,0,none⟩) (n + 1) G) (n + 1) (xs.take (i*5) ++ (Z (n + 1 - i)).toList):=by
    rw [hW1]
    refine ⟨by rw [List.length_append,htl,hzl]; omega,.inr ⟨w.heap.size,G,ROW,rfl,Nat.zero_le _,heap_alloc_new w.drew _,hGn,hGm,hRs,?_⟩⟩
    rw [hROW]
    simp only [Array.toList_append]
    rw [List.take_append_of_le_length (by rw [List.length_append,htl,hzl]; omega),List.take_of_length_le (by rw [List.length_append,htl,hzl]; omega)]
  rw [← hW1] at hrz
  have hNc:∀ j,j<(n + 1)*5→(W1.cell? ⟨w.heap.size,j,none⟩).isSome=true:=fun j hj=>by
    obtain ⟨u,hu2,_⟩:=own_at H0 j (by rw [H0.1]; exact hj)
    exact (congrArg Option.isSome hu2).trans rfl
  have hNf:∀ j,W1.frozen? ⟨w.heap.size,j,none⟩=false:=fun j=>own_free H0 j
  have hOb:∀ j v,w.cell? ⟨g,j,none⟩=some v→W1.cell? ⟨g,j,none⟩=some v:=fun j v h=>by rw [hW1,World.cell?_alloc_past (w:=w.drew) _ g j hbw]; exact h
  have hOv:∀ j v,w.cell? ⟨vb,j,none⟩=some v→W1.cell? ⟨vb,j,none⟩=some v:=fun j v h=>by rw [hW1,World.cell?_alloc_past (w:=w.drew) _ vb j hvw]; exact h
  have hcpA:∀ (W:World),(∀ x,W.cell? x=W1.cell? x)→(∀ x,W.frozen? x=W1.frozen? x)→∀ ty dc,(Builtin.copy_ #[30,30] ty #[.slice (some ⟨w.heap.size,i*5,none⟩) (n + 1 - i) dc,.slice (some ⟨vb,0,none⟩) 1 1]).run Tryz.prog W=.ok (goInt (1:Nat)) (W.setCells w.heap.size (i*5) ys):=fun W hWc hWf ty dc =>
    run_copy_s W _ _ ty 32 w.heap.size (i * 5) (n + 1 - i) dc ⟨vb, 0, none⟩ 1 1 5 ys t24 hsz 1 (by simp only [Nat.min_def]; split <;> omega) (by rw [hyl])
      (fun j v hj=>by rw [Addr.add_lit,Nat.zero_add,hWc]; exact hOv _ v (hyc j v hj))
      (fun j hj=>by rw [hWc]; exact hNc _ (by omega)) (fun j hj=>by rw [hWf]; exact hNf _) h1y
  have H1:=own_sets ys (i*5) W1 _ H0 (by rw [H0.1,hyl]; omega)
  have e1:List.take (i*5) (List.take (i*5) xs ++ (Z (n + 1 - i)).toList) ++ ys ++ List.drop (i*5 + ys.length) (List.take (i*5) xs ++ (Z (n + 1 - i)).toList)=(List.take (i*5) xs ++ ys) ++ (Z (n + 1 - i)).toList.drop 5:=by
    have ea:List.take (i*5) (List.take (i*5) xs ++ (Z (n + 1 - i)).toList)=List.take (i*5) xs:=List.take_left' (by rw [htl] <;> omega)
    have eb:List.drop (i*5 + ys.length) (List.take (i*5) xs ++ (Z (n + 1 - i)).toList)=(Z (n + 1 - i)).toList.drop 5:=by
      rw [List.drop_append,List.drop_of_length_le (l:=List.take (i*5) xs) (by rw [htl]; omega),List.nil_append,htl,hyl]
      congr 1
      omega
    rw [ea,eb]
  rw [e1] at H1
  have hcpB:∀ (W:World),(∀ x,W.cell? x=(W1.setCells w.heap.size (i*5) ys).cell? x)→(∀ x,W.frozen? x=(W1.setCells w.heap.size (i*5) ys).frozen? x)→∀ ty dc sc,(Builtin.copy_ #[30,30] ty #[.slice (some ⟨w.heap.size,(i + 1)*5,none⟩) (n - i) dc,.slice (some ⟨g,i*5,none⟩) (n - i) sc]).run Tryz.prog W=.ok (goInt (n - i:Nat)) (W.setCells w.heap.size ((i + 1)*5) (xs.drop (i*5))):=fun W hWc hWf ty dc sc =>
    run_copy_s W _ _ ty 32 w.heap.size ((i + 1) * 5) (n - i) dc ⟨g, i * 5, none⟩ (n - i) sc 5 (xs.drop (i * 5)) t24 hsz (n - i) (by simp only [Nat.min_def]; split <;> omega) hdl
      (fun j v hj=>by
        rw [Addr.add_lit,hWc,World.cell?_setCells_out _ _ _ _ _ (fun h _=>absurd h (Nat.ne_of_lt hbw))]
        exact hOb _ v (hxc _ v (by rwa [List.getElem?_drop] at hj)))
      (fun j hj=>by rw [hWc]; obtain ⟨u,hu2,_⟩:=own_at H1 ((i + 1)*5 + j) (by rw [H1.1]; omega); exact (congrArg Option.isSome hu2).trans rfl)
      (fun j hj=>by rw [hWf]; obtain ⟨u,_,hf⟩:=own_at H1 ((i + 1)*5 + j) (by rw [H1.1]; omega); exact hf) (fun v hv=>h1x v (List.mem_of_mem_drop hv))
  have hec:List.drop ((i + 1)*5 + (List.drop (i*5) xs).length) ((List.take (i*5) xs ++ ys) ++ (Z (n + 1 - i)).toList.drop 5)=[]:=List.drop_of_length_le (by rw [List.length_append,List.length_append,htl,hyl,List.length_drop,hzl,hdl]; omega)
  have hed:List.take ((i + 1)*5) ((List.take (i*5) xs ++ ys) ++ (Z (n + 1 - i)).toList.drop 5)=List.take (i*5) xs ++ ys:=List.take_left' (by rw [List.length_append,htl,hyl]; omega)
  have KF:∀ W:World,W.ownsRow 0 32 5 (.slice (some ⟨w.heap.size,0,none⟩) (n + 1) G) (n + 1) (xs.take (i*5) ++ (Z (n + 1 - i)).toList)→((W.setCells w.heap.size (i*5) ys).setCells w.heap.size ((i + 1)*5) (xs.drop (i*5))).ownsRow 0 32 5 (.slice (some ⟨w.heap.size,0,none⟩) (n + 1) G) (n + 1) (List.take (i*5) xs ++ ys ++ List.drop (i*5) xs):=fun W K0=>by
    have K1:=own_sets ys (i*5) W _ K0 (by rw [K0.1,hyl]; omega)
    rw [e1] at K1
    have K2:=own_sets (xs.drop (i*5)) ((i + 1)*5) _ _ K1 (by rw [K1.1,hdl]; omega)
    rw [hec,hed,List.append_nil] at K2
    exact K2
  have K0:(w.alloc (.cells ROW 32)).drew.drew.ownsRow 0 32 5 (.slice (some ⟨w.heap.size,0,none⟩) (n + 1) G) (n + 1) (xs.take (i*5) ++ (Z (n + 1 - i)).toList):=by
    rw [hW1] at H0
    exact H0
  have H2:=KF _ K0
  have HCH:Chg (fun _=>False) w (((w.alloc (.cells ROW 32)).drew.drew.setCells w.heap.size (i*5) ys).setCells w.heap.size ((i + 1)*5) (xs.drop (i*5))):=by
    have h1:Chg (fun k=>k=w.heap.size) w (((w.alloc (.cells ROW 32)).drew.drew.setCells w.heap.size (i*5) ys).setCells w.heap.size ((i + 1)*5) (xs.drop (i*5))) :=
      (Chg.of_same (S:=fun k=>k=w.heap.size) ((Below.refl w.heap.size w).alloc (Nat.le_refl _) _).drew.drew).trans ((chg_sets _ _ _ _).trans (chg_sets _ _ _ _))
    exact h1.mono (fun k hk e=>by omega)
  have HH:=Lib.hid H2
  have HC:=Lib.hid HCH
  subst hW1
  have hE1:∀ x,((w.alloc (.cells ROW 32)).drew).cell? x=(w.drew.alloc (.cells ROW 32)).cell? x:=fun x=>rfl
  have hE2:∀ x,((w.alloc (.cells ROW 32)).drew).frozen? x=(w.drew.alloc (.cells ROW 32)).frozen? x:=fun x=>rfl
  have hF1:∀ x,(((w.alloc (.cells ROW 32)).drew.setCells w.heap.size (i*5) ys).drew).cell? x=((w.drew.alloc (.cells ROW 32)).setCells w.heap.size (i*5) ys).cell? x:=fun x=>rfl
  have hF2:∀ x,(((w.alloc (.cells ROW 32)).drew.setCells w.heap.size (i*5) ys).drew).frozen? x=((w.drew.alloc (.cells ROW 32)).setCells w.heap.size (i*5) ys).frozen? x:=fun x=>rfl
  have hw1:IntKind.i64.wrap ((i:Int) + 1)=(i:Int) + 1:=by rw [IntKind.wrap_i64]; omega
  have hb1:(0:Int)≤(i:Int) + 1:=by omega
  have hin:i≤n:=by omega
  have htn:((i:Int) + 1).toNat=i + 1:=by omega
  have hb3:(i:Int)≤(n:Int):=by omega
  have hGi:¬ (G=i):=by omega
  have hGim:¬ (G=i + 1):=by omega
  have hci:¬ (n=i):=by omega
  clear hkk hik hold hROW hG hZ hZs H0 H1 H2 e1 hec hed KF K0 hNc hNf hOb hOv hzl hRs hdl htl hxc hyc h h1x h1y hv hlen HCH
  go_enter Tryz.func130,Tryz.ntmps130
  go_wp2_with (first
    | (at_builtin; refine Lib.wpList_append_run _ rfl _ _ _ _ rfl _ _ rfl rfl _ _ (hrz _) ?_)
    | (at_builtin; refine wpList_copy_runI _ rfl _ _ 30 30 rfl _ _ rfl rfl (hcpA _ hE1 hE2 _ _) ?_)
    | (at_builtin; refine wpList_copy_runI _ rfl _ _ 30 30 rfl _ _ rfl rfl (hcpB _ (fun _=>rfl) (fun _=>rfl) _ _ _) ?_))
  go_region_law_o (refine step_copy_runI rfl _ _ 30 30 rfl (.slice (some ⟨w.heap.size,(i + 1)*5,none⟩) (n - i) (G - (i + 1))) (.slice (some ⟨g,i*5,none⟩) (n - i) (n - i)) (by simp [Act.eval,Act.put]) (by simp [Act.eval,Act.put]) (hcpB _ hF1 hF2 3 (G - (i + 1)) (n - i)) ?_)
  go_wp2
  go_ret
  rw [drew_setCells]
  exact ⟨_,rfl,HH.out,HC.out,rfl⟩
theorem insAt_le (l:List ByteArray) (key:ByteArray):insAt l key≤l.length:=List.findIdx_le_length
theorem above_calls (key s:ByteArray) (B:Nat) (w:World) (hc:w.cell? ⟨B,0,none⟩=some (.string key)) :
    Calls Tryz.prog 128 #[.string s,.pointer (some ⟨B,0,none⟩)] w fun e w'=>e=.returned (.bool (aboveB key s))∧w'=w:=by
  go_enter Tryz.func128,Tryz.ntmps128
  go_wp2
  go_ret
  refine ⟨?_,rfl⟩
  unfold aboveB
  rw [Bool.not_or]
  rfl
def abInt (l:List ByteArray) (key:ByteArray):Int:=if insAt l key<l.length then (insAt l key:Int) else -1
set_option maxHeartbeats 4000000 in
theorem idxF_calls (A:Option Addr) (c:Nat) (l:List ByteArray) (key:ByteArray) (B:Nat) (w:World) (hr:Kd.C Kd.string w A l.length l) (hk:w.cell? ⟨B,0,none⟩=some (.string key)) :
    Calls Tryz.prog 127 #[.slice A l.length c,.func (.func 128) #[] #[.pointer (some ⟨B,0,none⟩)]] w fun e w'=>e=.returned (.int .i64 (abInt l key))∧w'=w:=by
  have eg:∀ args w,(callFunc 128 args).run Tryz.prog w=.ok (.enter 128 args) w:=enters_of Tryz.func128 (by kernel_rfl) rfl
  have hu:=Tryz.underlying9
  have hab:∀ s,Calls Tryz.prog 128 (#[.string s] ++ #[.pointer (some ⟨B,0,none⟩)]) w fun e w'=>e=.returned (.bool (aboveB key s))∧w'=w:=fun s=>above_calls key s B w hk
  have hlen:l.length≤9223372036854775807:=hr.2.1
  have hpt:∃ A0:Option Addr,A0=A:=⟨A,rfl⟩
  have hcell:0<l.length→∃ b off,A=some ⟨b,off,none⟩∧∀ j,j<l.length→w.cell? ⟨b,off + j,none⟩=some (.string (l.getD j ByteArray.empty)):=fun h0=>C_cells h0 hr
  have HC:=Lib.hid hcell
  clear hr hcell hpt
  go_enter Tryz.func127,Tryz.ntmps127
  go_wp2
  go_loopg [5,8] l.length (fun gg _ s8 wr=>∃ kk:Nat,kk≤l.length∧l.length - kk≤gg∧s8=.int .i64 kk∧wr=w∧Aside (∀ j,j<kk→aboveB key (l.getD j ByteArray.empty)=false))
  case atStart=>exact ⟨0,Nat.zero_le _,by omega,rfl,rfl,fun j hj=>absurd hj (Nat.not_lt_zero _)⟩
  case round =>
    obtain ⟨kk,hkk,hg,rfl,rfl,HA⟩:=hrel
    by_cases hlt:kk<l.length
    · have hltz : (kk : Int) < (l.length : Int) := by omega
      obtain ⟨b,off,rfl,hc⟩:=HC.out (by omega)
      have hcell:=hc kk hlt
      clear hc
      obtain ⟨s,hs⟩:∃ s,l.getD kk ByteArray.empty=s:=⟨_,rfl⟩
      rw [hs] at hcell
      have HS:Aside (l.getD kk ByteArray.empty=s):=hs
      clear hs
      have hcall:=hab s
      cases hq:aboveB key s with
      | true =>
        rw [hq] at hcall
        go_wp2_with (go_at_fn 128; refine hcall.mono ?_; rintro e w' ⟨rfl,rfl⟩)
        go_ret
        refine ⟨?_,rfl⟩
        have hf:insAt l key=kk:=by
          unfold insAt
          rw [List.findIdx_eq hlt]
          refine ⟨?_,fun j hj=>?_⟩
          · have e := HS.out
            rw [getD_at _ _ hlt] at e
            rw [e]
            exact hq
          · have e := HA.out j hj
            rwa [getD_at _ _ (by omega)] at e
        unfold abInt
        rw [hf,if_pos hlt]
        rfl
      | false =>
        rw [hq] at hcall
        go_wp2_with (go_at_fn 128; refine hcall.mono ?_; rintro e w' ⟨rfl,rfl⟩)
        go_roundg (l.length - (kk + 1))
        case measure=>omega
        case rel =>
          refine ⟨kk + 1,by omega,by omega,by go_num,rfl,(show Aside _ from fun j hj=>?_)⟩
          by_cases e:j=kk
          · subst e
            rw [HS.out]; exact hq
          · exact HA.out j (by omega)
    · have hltz : ¬ (kk : Int) < (l.length : Int) := by omega
      have:kk=l.length:=by omega
      subst this
      go_wp2
      go_ret
      refine ⟨?_,rfl⟩
      have hf:insAt l key=l.length:=by
        unfold insAt
        rw [List.findIdx_eq_length]
        intro x hx
        obtain ⟨j,hj,rfl⟩:=List.getElem_of_mem hx
        have e:=HA.out j hj
        rwa [getD_at _ _ hj] at e
      unfold abInt
      rw [hf,if_neg (Nat.lt_irrefl _)]
      rfl
theorem ot_one {w:World} {y:S32} {cs:List Value} {fp:List Nat} (h:OT w y cs fp):cs.length=5∧∀ u ∈ cs,u.oneCell'=true:=by
  rw [OT_iff] at h
  obtain ⟨v3,v4,gss,rfl,h6,h7,_⟩:=h
  obtain ⟨B3,d3,rfl,_,_⟩:=SRow_C h6
  obtain ⟨B4,d4,rfl,_,_⟩:=ORow_C h7
  refine ⟨rfl,fun u hu=>?_⟩
  simp at hu
  rcases hu with e | e | e | e | e <;> rw [e] <;> rfl
theorem insS_row (v:Value) (ks:List ByteArray) (key:ByteArray) (i vb:Nat) (w:World) (h:SRow w v ks) (hi:i≤ks.length) (hn:ks.length≤1099511627776) (hv:w.heap[vb]?=some (.cells #[.string key] 9 (0,0))) (hne:∀ k,v.ownBlock=some k→vb ≠ k) :
    Calls Tryz.prog 129 #[v,.int .i64 i,.slice (some ⟨vb,0,none⟩) 1 1] w fun e w'=>∃ v',e=.returned v'∧SRow w' v' (ks.take i ++ key :: ks.drop i)∧Chg (fun k=>v.ownBlock=some k) w w'∧(v'.ownBlock=v.ownBlock ∨ v'.ownBlock=some w.heap.size):=by
  have hlen:(ks.take i ++ key :: ks.drop i).length=ks.length + 1:=by rw [List.length_append,List.length_cons,List.length_take,List.length_drop]; omega
  have hmap:(ks.take i ++ key :: ks.drop i).map Value.string=(ks.map Value.string).take i ++ [Value.string key] ++ (ks.map Value.string).drop i:=by
    rw [List.map_append,List.map_cons,List.map_take,List.map_drop,List.append_assoc,List.singleton_append]
  have h1:∀ u ∈ ks.map Value.string,u.oneCell'=true:=fun u hu=>by obtain ⟨x,_,rfl⟩:=List.mem_map.1 hu; rfl
  have h2:∀ u ∈ [Value.string key],u.oneCell'=true:=fun u hu=>by rw [List.mem_singleton.1 hu]; rfl
  unfold SRow at h ⊢
  rw [hlen,hmap]
  rcases Nat.lt_or_ge i ks.length with hlt | hge
  · obtain ⟨g, cap, rfl⟩ := own_form h (by omega)
    have hcap:ks.length≤cap:=by
      rcases h.2 with ⟨h0,_⟩ | ⟨g',cap',cur,hv,_,_,q1,_⟩
      · cases h0
      · injection hv with _ _ q3
        exact q3 ▸ q1
    have hvg:vb ≠ g:=hne g rfl
    rcases Nat.lt_or_ge ks.length cap with hr | hr
    · refine (insS_shift g ks.length cap i _ [.string key] vb w h hlt hn (by omega) h1 h2 rfl hv hvg).mono fun e w' ⟨he,ho,hc⟩=>⟨_,he,ho,hc.mono (fun k _ e=>by rw [e]; rfl),.inl rfl⟩
    · obtain rfl : cap = ks.length := by omega
      exact (insS_grow g ks.length i _ [.string key] vb w h hlt hn h1 h2 rfl hv).mono fun e w' ⟨v',he,ho,hc,hb⟩=>⟨v',he,ho,hc.mono (fun k _ e=>e.elim),.inr hb⟩
  · obtain rfl : i = ks.length := by omega
    refine (insS_end ks.length v _ [.string key] vb w h hn h2 rfl hv).mono fun e w' ⟨v',he,ho,hc,hb⟩=>⟨v',he,?_,hc,hb⟩
    rw [List.take_of_length_le (by simp),List.drop_of_length_le (by simp),List.append_nil]
    exact ho
theorem ins_get {α:Type} (l:List α) (x:α) (i j:Nat) (hi:i≤l.length):(l.take i ++ x :: l.drop i)[j]?=if j<i then l[j]? else if j=i then some x else l[j - 1]?:=by
  have hl:(l.take i).length=i:=by rw [List.length_take]; omega
  by_cases h1:j<i
  · rw [if_pos h1,List.getElem?_append_left (by omega),List.getElem?_take,if_pos h1]
  · rw [if_neg h1, List.getElem?_append_right (by omega), hl]
    by_cases h2:j=i
    · rw [if_pos h2,h2,Nat.sub_self]; rfl
    · rw [if_neg h2, show j - i = (j - i - 1) + 1 by omega, List.getElem?_cons_succ, List.getElem?_drop]
      congr 1
      omega
theorem ORow_ins {S : Nat → Prop} {w w' : World} {v' : Value} {kids : List S32} {fss : List (List Nat)} {inner cs : List Value} {y : S32} {fp : List Nat} {i : Nat} (h4 : fss.length = kids.length) (hil : inner.length = kids.length * 5) (h5 : ∀ j (h : j < kids.length) f, fss[j]? = some f → OT w kids[j] ((inner.drop (j * 5)).take 5) f) (hy : OT w y cs fp) (hcl : cs.length = 5) (hi : i ≤ kids.length)
    (hc:Chg S w w') (hd:∀ k ∈ fss.flatten,¬ S k) (hdy:∀ k ∈ fp,¬ S k) (ho:w'.ownsRow 0 32 5 v' (kids.length + 1) (inner.take (i*5) ++ cs ++ inner.drop (i*5))):ORow w' v' (kids.take i ++ y :: kids.drop i) (fss.take i ++ fp :: fss.drop i):=by
  have hlen:(kids.take i ++ y :: kids.drop i).length=kids.length + 1:=by rw [List.length_append,List.length_cons,List.length_take,List.length_drop]; omega
  have htl:(inner.take (i*5)).length=i*5:=by rw [List.length_take]; omega
  refine ⟨_,by rw [hlen]; exact ho,by rw [hlen,List.length_append,List.length_cons,List.length_take,List.length_drop]; omega,fun j hj f hf=>?_⟩
  rw [ins_get _ _ _ _ (by omega)] at hf
  have hk:(kids.take i ++ y :: kids.drop i)[j]?=some (kids.take i ++ y :: kids.drop i)[j]:=List.getElem?_eq_getElem hj
  rw [ins_get _ _ _ _ hi] at hk
  by_cases hlt:j<i
  · rw [if_pos hlt] at hf hk
    have e:((inner.take (i*5) ++ cs ++ inner.drop (i*5)).drop (j*5)).take 5=(inner.drop (j*5)).take 5:=by
      rw [List.append_assoc,List.drop_append_of_le_length (by omega),List.take_append_of_le_length (by rw [List.length_drop]; omega),List.drop_take,List.take_take,Nat.min_eq_left (by omega)]
    obtain ⟨hj2,e2⟩:=List.getElem?_eq_some_iff.1 hk
    rw [e,← e2]
    exact OT_chg hc _ _ _ (h5 j hj2 f hf) (fun k hk=>hd k (mem_flat hf hk))
  · rw [if_neg hlt] at hf hk
    by_cases he:j=i
    · rw [if_pos he] at hf hk
      obtain rfl:=Option.some.inj hf
      have e:((inner.take (i*5) ++ cs ++ inner.drop (i*5)).drop (j*5)).take 5=cs:=by
        rw [he,List.append_assoc,List.drop_left' htl,List.take_left' hcl]
      rw [e,← Option.some.inj hk]
      exact OT_chg hc _ _ _ hy (fun k hk=>hdy k hk)
    · rw [if_neg he] at hf hk
      have e:((inner.take (i*5) ++ cs ++ inner.drop (i*5)).drop (j*5)).take 5=(inner.drop ((j - 1)*5)).take 5:=by
        rw [List.drop_append,List.drop_of_length_le (l:=inner.take (i*5) ++ cs) (by rw [List.length_append,htl,hcl]; omega),List.nil_append,List.drop_drop,List.length_append,htl,hcl]
        congr 2
        omega
      obtain ⟨hj2,e2⟩:=List.getElem?_eq_some_iff.1 hk
      rw [e,← e2]
      exact OT_chg hc _ _ _ (h5 (j - 1) hj2 f hf) (fun k hk=>hd k (mem_flat hf hk))
theorem insN_row (v : Value) (kids : List S32) (fss : List (List Nat)) (y : S32) (cs : List Value) (fp : List Nat) (i vb : Nat) (w : World) (h : ORow w v kids fss) (hd : ∀ k ∈ fss.flatten, v.ownBlock ≠ some k) (hy : OT w y cs fp) (hdy : ∀ k ∈ fp, v.ownBlock ≠ some k) (hi : i ≤ kids.length) (hn : kids.length ≤ 1099511627776)
    (hv:w.heap[vb]?=some (.cells cs.toArray 32 (0,0))) (hne:∀ k,v.ownBlock=some k→vb ≠ k) :
    Calls Tryz.prog 130 #[v,.int .i64 i,.slice (some ⟨vb,0,none⟩) 1 1] w fun e w'=>∃ v',e=.returned v'∧ORow w' v' (kids.take i ++ y :: kids.drop i) (fss.take i ++ fp :: fss.drop i)∧Chg (fun k=>v.ownBlock=some k) w w'∧(v'.ownBlock=v.ownBlock ∨ v'.ownBlock=some w.heap.size):=by
  obtain ⟨inner,h3,h4,h5⟩:=h
  obtain ⟨hcl,hc1⟩:=ot_one hy
  have h1:=row_one h3 h4 h5
  have hlen:(kids.take i ++ y :: kids.drop i).length=kids.length + 1:=by rw [List.length_append,List.length_cons,List.length_take,List.length_drop]; omega
  have hil:inner.length=kids.length*5:=h3.1
  have close:∀ (v':Value) (w':World),w'.ownsRow 0 32 5 v' (kids.length + 1) (inner.take (i*5) ++ cs ++ inner.drop (i*5))→Chg (fun k=>v.ownBlock=some k) w w'→ORow w' v' (kids.take i ++ y :: kids.drop i) (fss.take i ++ fp :: fss.drop i):=by
    intro v' w' ho hc
    exact ORow_ins h4 hil h5 hy hcl hi hc (fun k hk e=>hd k hk e) (fun k hk e=>hdy k hk e) ho
  have hv':w.heap[vb]?=some (.cells cs.toArray 32 (0,0)):=hv
  rcases Nat.lt_or_ge i kids.length with hlt | hge
  · obtain ⟨g, cap, rfl⟩ := own_form h3 (by omega)
    have hcap:kids.length≤cap:=by
      rcases h3.2 with ⟨h0,_⟩ | ⟨g',cap',cur,hv,_,_,q1,_⟩
      · cases h0
      · injection hv with _ _ q3
        exact q3 ▸ q1
    have hvg:vb ≠ g:=hne g rfl
    rcases Nat.lt_or_ge kids.length cap with hr | hr
    · refine (insN_shift g kids.length cap i _ cs vb w h3 hlt hn (by omega) h1 hc1 hcl hv hvg).mono fun e w' ⟨he, ho, hc⟩ => ?_
      have hc2:Chg (fun k=>(Value.slice (some ⟨g,0,none⟩) kids.length cap).ownBlock=some k) w w':=hc.mono (fun k _ e=>by rw [e]; rfl)
      exact ⟨_,he,close _ _ ho hc2,hc2,.inl rfl⟩
    · obtain rfl : cap = kids.length := by omega
      refine (insN_grow g kids.length i _ cs vb w h3 hlt hn h1 hc1 hcl hv).mono fun e w' ⟨v',he,ho,hc,hb⟩=>?_
      have hc2:Chg (fun k=>(Value.slice (some ⟨g,0,none⟩) kids.length kids.length).ownBlock=some k) w w':=hc.mono (fun k _ e=>e.elim)
      exact ⟨v',he,close _ _ ho hc2,hc2,.inr hb⟩
  · obtain rfl : i = kids.length := by omega
    refine (insN_end kids.length v _ cs vb w h3 hn hc1 hcl hv).mono fun e w' ⟨v',he,ho,hc,hb⟩=>⟨v',he,close _ _ ?_ hc,hc,hb⟩
    rw [List.take_of_length_le (by omega),List.drop_of_length_le (by omega),List.append_nil]
    exact ho
theorem mem_own' {b:Option Nat} {k:Nat} (h:k ∈ b.toList):b=some k:=by cases b <;> simp_all
theorem nd3 {a b:Option Nat} {F:List Nat} (h1:∀ k,a=some k→b ≠ some k) (h2:∀ k,a=some k→k ∉ F) (h3:∀ k,b=some k→k ∉ F) (h4:F.Nodup):(a.toList ++ (b.toList ++ F)).Nodup:=by
  have hb:(b.toList ++ F).Nodup:=by
    cases b with
    | none=>simpa using h4
    | some j=>simpa using ⟨h3 j rfl,h4⟩
  cases a with
  | none=>simpa using hb
  | some i =>
    refine List.nodup_cons.2 ⟨fun hm=>?_,hb⟩
    have hm2:i ∈ b.toList ++ F:=hm
    rcases List.mem_append.1 hm2 with hm3 | hm3
    · exact h1 i rfl (mem_own' hm3)
    · exact h2 i rfl hm3
theorem nd3_inv {a b:Option Nat} {F:List Nat} (h:(a.toList ++ (b.toList ++ F)).Nodup):(∀ k,a=some k→b ≠ some k)∧(∀ k,a=some k→k ∉ F)∧(∀ k,b=some k→k ∉ F)∧F.Nodup:=by
  obtain ⟨_,h2,h3⟩:=List.nodup_append.1 h
  obtain ⟨_,h4,h5⟩:=List.nodup_append.1 h2
  refine ⟨fun k hk e=>h3 k (by simp [hk]) k (by simp [e]) rfl,fun k hk hm=>h3 k (by simp [hk]) k (by simp [hm]) rfl,fun k hk hm=>h5 k (by simp [hk]) k hm rfl,h4⟩
theorem nodup_mid {A C F:List Nat} (h:(A ++ C).Nodup) (hF:F.Nodup) (hd:∀ k ∈ F,k ∉ A ++ C):(A ++ (F ++ C)).Nodup:=by
  have hp:(A ++ (F ++ C)).Perm (F ++ (A ++ C)):=by
    rw [← List.append_assoc,← List.append_assoc]
    exact List.Perm.append_right _ List.perm_append_comm
  rw [hp.nodup_iff]
  exact List.nodup_append.2 ⟨hF,h,fun a ha b hb e=>hd a ha (e ▸ hb)⟩
theorem ins_flat (fss:List (List Nat)) (fp:List Nat) (p:Nat):(fss.take p ++ fp :: fss.drop p).flatten=(fss.take p).flatten ++ (fp ++ (fss.drop p).flatten):=by rw [List.flatten_append,List.flatten_cons]
theorem flat_split (fss:List (List Nat)) (p:Nat):fss.flatten=(fss.take p).flatten ++ (fss.drop p).flatten:=by rw [← List.flatten_append,List.take_append_drop]
theorem ins_nodup {fss:List (List Nat)} {fp:List Nat} (p:Nat) (h:fss.flatten.Nodup) (hF:fp.Nodup) (hd:∀ k ∈ fp,k ∉ fss.flatten):(fss.take p ++ fp :: fss.drop p).flatten.Nodup:=by
  rw [ins_flat]
  rw [flat_split fss p] at h hd
  exact nodup_mid h hF hd
theorem ins_mem {fss:List (List Nat)} {fp:List Nat} {p k:Nat} (h:k ∈ (fss.take p ++ fp :: fss.drop p).flatten):k ∈ fss.flatten ∨ k ∈ fp:=by
  rw [ins_flat] at h
  rw [flat_split fss p]
  simp only [List.mem_append] at h ⊢
  rcases h with h | h | h
  · exact .inl (.inl h)
  · exact .inr h
  · exact .inl (.inr h)
theorem set_flat (fss:List (List Nat)) (fp:List Nat) (i:Nat) (hi:i<fss.length):(fss.set i fp).flatten=(fss.take i).flatten ++ (fp ++ (fss.drop (i + 1)).flatten):=by
  rw [List.set_eq_take_append_cons_drop,if_pos hi,List.flatten_append,List.flatten_cons]
theorem cut_sub (fss:List (List Nat)) (i:Nat):((fss.take i).flatten ++ (fss.drop (i + 1)).flatten).Sublist fss.flatten:=by
  have h:=flat_erase fss i
  rwa [List.eraseIdx_eq_take_drop_succ,List.flatten_append] at h
theorem set_nodup {fss:List (List Nat)} {fp:List Nat} (i:Nat) (hi:i<fss.length) (h:fss.flatten.Nodup) (hF:fp.Nodup) (hd:∀ k ∈ fp,k ∉ fss.flatten):(fss.set i fp).flatten.Nodup:=by
  rw [set_flat _ _ _ hi]
  exact nodup_mid (h.sublist (cut_sub fss i)) hF (fun k hk hm=>hd k hk ((cut_sub fss i).subset hm))
theorem set_mem {fss:List (List Nat)} {fp:List Nat} {i k:Nat} (hi:i<fss.length) (h:k ∈ (fss.set i fp).flatten):k ∈ fss.flatten ∨ k ∈ fp:=by
  rw [set_flat _ _ _ hi] at h
  simp only [List.mem_append] at h
  rcases h with h | h | h
  · exact .inl ((cut_sub fss i).subset (List.mem_append.2 (.inl h)))
  · exact .inr h
  · exact .inl ((cut_sub fss i).subset (List.mem_append.2 (.inr h)))
theorem ORow_put {w:World} {g n d i:Nat} {kids:List S32} {fss:List (List Nat)} {y:S32} {u0 u1 u2 u3 u4:Value} {fp:List Nat} (h:ORow w (.slice (some ⟨g,0,none⟩) n d) kids fss) (hi:i<kids.length) (hd:∀ k ∈ fss.flatten,¬ k=g) (hy:OT w y [u0,u1,u2,u3,u4] fp) (hdy:∀ k ∈ fp,¬ k=g) :
    ORow (((((w.setCell ⟨g,i*5,none⟩ u0).setCell ⟨g,i*5 + 1,none⟩ u1).setCell ⟨g,i*5 + 2,none⟩ u2).setCell ⟨g,i*5 + 3,none⟩ u3).setCell ⟨g,i*5 + 4,none⟩ u4) (.slice (some ⟨g,0,none⟩) n d) (kids.set i y) (fss.set i fp):=by
  obtain ⟨inner,h3,h4,h5⟩:=h
  have hil:inner.length=kids.length*5:=h3.1
  have hn:n=kids.length:=by
    rcases h3.2 with ⟨h0,_⟩ | ⟨g',cap',cur,hv,_⟩
    · cases h0
    · injection hv
  subst hn
  have hc:=chg_set5 (S:=fun k=>k=g) w g i u0 u1 u2 u3 u4 rfl
  refine ⟨set5 inner i u0 u1 u2 u3 u4,by rw [List.length_set]; exact own_set5 h3 (by omega) u0 u1 u2 u3 u4,by rw [List.length_set,List.length_set,h4],fun j hj f hf=>?_⟩
  rw [List.length_set] at hj
  by_cases e:i=j
  · subst e
    rw [List.getElem?_set_self (by omega)] at hf
    obtain rfl:=Option.some.inj hf
    rw [set5_same hil hj,List.getElem_set_self]
    exact OT_chg hc _ _ _ hy (fun k hk=>hdy k hk)
  · rw [List.getElem?_set_ne e] at hf
    rw [set5_other e,List.getElem_set_ne e]
    exact OT_chg hc _ _ _ (h5 j hj f hf) (fun k hk=>hd k (mem_flat hf hk))
theorem insAt_stop {l:List ByteArray} {key:ByteArray} {p:Nat} (hn:kAt l key=none) (h1:∀ j,j<p→Op.bytesLess (l.getD j ByteArray.empty).toList key.toList=true) (hp:p≤l.length) (h2:p<l.length→Op.bytesLess (l.getD p ByteArray.empty).toList key.toList=false):insAt l key=p:=by
  have hne:=kAt_none hn
  have hab:∀ j (hj:j<l.length),aboveB key l[j]=!Op.bytesLess (l.getD j ByteArray.empty).toList key.toList:=fun j hj=>by
    have e:(l[j].toList == key.toList)=false:=by
      have:=hne j hj
      rw [getD_at _ _ hj] at this
      simpa [tlb] using this
    unfold aboveB
    rw [e,Bool.or_false,getD_at _ _ hj]
  unfold insAt
  rcases Nat.lt_or_ge p l.length with hlt | hge
  · rw [List.findIdx_eq hlt]
    refine ⟨by rw [hab p hlt,h2 hlt]; rfl,fun j hj=>by rw [hab j (by omega),h1 j hj]; rfl⟩
  · obtain rfl : p = l.length := by omega
    rw [List.findIdx_eq_length]
    intro x hx
    obtain ⟨j,hj,rfl⟩:=List.getElem_of_mem hx
    rw [hab j hj,h1 j hj]
    rfl
section
variable {P:Program} {ops:Array Oper} {rest:List Oper} {o:Oper} {a:Act} {Q:Exit→Act→World→Prop}
theorem store1_event {W : World} (hgd : o.guard = none) {t : TypeId} {p : Tmp} {v : Operand} (_ho : o.op = .store t (.tmp p) v) (hN : o.dst = none) {g j : Nat} {T : TypeId} {cs cs' : Array Value} (u : Value)
    (bk:W.heap[g]?=some (.cells cs T (0,0))) (hcs:cs.setIfInBounds j u=cs') (hrun:(execOp a.eval o).run P W=.ok .skip (W.setCell ⟨g,j,none⟩ u))
    (h:∀ w',w'.heap[g]?=some (.cells cs' T (0,0))→Chg (fun k=>k=g) W w'→wpList P ops Q rest a w'):wpList P ops Q (o :: rest) a W :=
  store_event hgd _ho hN hrun (fun w' e=>h w' (e ▸ blk_put bk j u hcs) (e ▸ chg_put W g j u))
end
noncomputable def atI (x:S32) (key:ByteArray):Int:=if x.f0=5 then (match kAt x.f3 key with | some i=>if i<x.f4.length then (i:Int) else -1 | none => -1) else -1
theorem l3At_ev (x:S32) (key:ByteArray) (h3:x.f3.length≤1099511627776):Ev (fun k=>spec_l3At.f k x.f0 x.f1 x.f2 x.f3 x.f4 key) (atI x key):=by
  have main:∀ d i,i + d=x.f3.length→(∀ j,j<i→x.f3.getD j ByteArray.empty ≠ key)→Ev (fun k=>spec_l3At.l0 k key (i:Int) x.f0 x.f1 x.f2 x.f3 x.f4) (atI x key):=by
    intro d
    have stop:∀ i:Nat,atI x key = -1→Ev (fun k=>spec_l3At.j1 k key (i:Int) false x.f0 x.f1 x.f2 x.f3 x.f4) (atI x key):=fun i e=>by
      refine Ev.step (f:=fun _=>some (-1)) (fun k=>by simp [spec_l3At.j1]) ?_
      rw [e]
      exact Ev.now _
    induction d with
    | zero =>
      intro i hi hj
      obtain rfl:i=x.f3.length:=by omega
      refine Ev.step (f:=fun k=>spec_l3At.j1 k key (x.f3.length:Int) false x.f0 x.f1 x.f2 x.f3 x.f4) (fun k=>by simp only [spec_l3At.l0]; rw [if_neg (by omega)]) (stop _ ?_)
      unfold atI
      rw [kAt_miss hj]
      split <;> rfl
    | succ d ih =>
      intro i hi hj
      by_cases h4:i<x.f4.length
      · refine Ev.step (f := fun k => spec_l3At.j1 k key (i : Int) (x.f0 == 5) x.f0 x.f1 x.f2 x.f3 x.f4) (fun k => by simp only [spec_l3At.l0]; rw [if_pos (by omega), if_pos (by omega)]) ?_
        by_cases h5:x.f0=5
        · rw [show (x.f0 == 5) = true by rw [h5]; rfl]
          have e:rdOf ByteArray.empty x.f3 (i:Int)=x.f3.getD i ByteArray.empty:=rfl
          by_cases hk:x.f3.getD i ByteArray.empty=key
          · refine Ev.step (f := fun _ => some (i : Int)) (fun k => by simp only [spec_l3At.j1]; rw [if_pos trivial, if_pos (by omega), if_pos (by omega), e, if_pos (by rw [hk])]) ?_
            have:atI x key=i:=by
              unfold atI
              rw [if_pos h5,kAt_eq ⟨by omega,hk,hj⟩]
              simp only
              rw [if_pos h4]
            rw [this]
            exact Ev.now _
          · refine Ev.step (f := fun k => spec_l3At.l0 k key ((i + 1 : Nat) : Int) x.f0 x.f1 x.f2 x.f3 x.f4) (fun k => by simp only [spec_l3At.j1]; rw [if_pos trivial, if_pos (by omega), if_pos (by omega), e, if_neg (fun h => hk (tlb.1 h)), wsucc (by omega)]) ?_
            refine ih (i + 1) (by omega) (fun j hj2=>?_)
            rcases Nat.lt_or_ge j i with h | h
            · exact hj j h
            · obtain rfl : j = i := by omega
              exact hk
        · rw [show (x.f0 == 5) = false by simp [h5]]
          refine stop i ?_
          unfold atI
          rw [if_neg h5]
      · refine Ev.step (f := fun k => spec_l3At.j1 k key (i : Int) false x.f0 x.f1 x.f2 x.f3 x.f4) (fun k => by simp only [spec_l3At.l0]; rw [if_pos (by omega), if_neg (by omega)]) (stop _ ?_)
        unfold atI
        split
        · cases hq:kAt x.f3 key with
          | none=>rfl
          | some j =>
            simp only
            have:=(kAt_some hq).2.1
            rw [if_neg (fun hlt=>hj j (by omega) this)]
        · rfl
  unfold spec_l3At.f
  exact main x.f3.length 0 (by omega) (fun j hj=>absurd hj (Nat.not_lt_zero _))
theorem atI_get (x:S32) (key:ByteArray):(atI x key = -1∧getK x key=none) ∨ ∃ i:Nat,∃ h:i<x.f4.length,i<x.f3.length∧atI x key=i∧getK x key=some x.f4[i]∧kAt x.f3 key=some i∧x.f0=5:=by
  unfold atI getK
  split
  · cases hq:kAt x.f3 key with
    | none=>exact .inl ⟨rfl,rfl⟩
    | some j =>
      simp only
      by_cases hj:j<x.f4.length
      · exact .inr ⟨j,hj,(kAt_some hq).1,by rw [if_pos hj],by rw [Option.bind_some,List.getElem?_eq_getElem hj],rfl,by assumption⟩
      · exact .inl ⟨by rw [if_neg hj],by rw [Option.bind_some,List.getElem?_eq_none (by omega)]⟩
  · exact .inl ⟨rfl,rfl⟩
end Go.Proofs.YtdlhidjphaaklaaGreat.H
end
