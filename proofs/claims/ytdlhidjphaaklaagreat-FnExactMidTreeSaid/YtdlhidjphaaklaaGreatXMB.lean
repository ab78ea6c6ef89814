/- Part 2 of the proof of the law FnExactMidTree: what it leans on, in build order. No condition. (Merged by wip/reap.py.) -/
import Derived.Test.YtdlhidjphaaklaaGreatXMA
import Derived.Orders
import Derived.KernelRfl
import Derived.Laws.Entries
import Derived.Test.YtdlhidjphaaklaaGreatProg
import Derived.Lib.SlicesS
import Derived.Lib.Strings
import Derived.Lib.Join
import Derived.Lib.Repeat
import Derived.Lib.Bytealg
import Derived.Below
import Derived.Laws.AppendOwn
set_option linter.unusedVariables false
set_option linter.unusedSimpArgs false
section
namespace Go.Proofs.YtdlhidjphaaklaaGreat.V
open Go Go.RowKit
abbrev Rows_:=List (Nat × Nat × Nat)
inductive Eff
  | pure
  | box (k:Nat)
  | rows (h:Rows_)
def RunOp (P:Program) (ops:Array Oper) (o:Oper) (a:Act) (w:World) (K:Act→World→Prop) (Q:Exit→Act→World→Prop):Prop :=
  if Region.wanted o (yielded ops a.tmps)=true then o.wp P a w K Q else K (a.put o.dst undef) w
def Does (P : Program) (ops : Array Oper) (o : Oper) (t : List (Nat × AV)) (b : List (List AV)) (h0 : Rows_) (x : AV) : Eff → Prop
  | .pure=>∀ C E s a w,Inv C E s a w→s.b=b→Sub t s.t→∀ K Q,(∀ E' u w',E'.gs=E.gs→(∀ s2,Inv C E s2 a w→Inv C E' s2 a w')→RepT E' s.h w' x u→K (a.put o.dst u) w')→RunOp P ops o a w K Q
  | .box k=>∀ C E s a w,Inv C E s a w→s.b=b→Sub t s.t→E.gs[k]?=some none→∀ K Q,(∀ E' u w',(∀ j,j ≠ k→E'.gs[j]?=E.gs[j]?)→(∀ s2,s2.b[k]?=s.b[k]?→Inv C E s2 a w→Inv C E' s2 a w')→RepT E' s.h w' x u→K (a.put o.dst u) w')→RunOp P ops o a w K Q
  | .rows h=>∀ C E s a w,Inv C E s a w→s.b=b→Sub t s.t→s.h=h0→∀ K Q,(∀ E' u w',E'.gs=E.gs→(∀ s2,s2.h=s.h→Inv C E s2 a w→Inv C E' { s2 with h:=h } a w')→RepT E' h w' x u→K (a.put o.dst u) w')→RunOp P ops o a w K Q
def opT : Op → List Operand
  | .move x=>[x]
  | .assign x=>[x]
  | .load _ x=>[x]
  | .fieldAddr _ x _=>[x]
  | .indexAddr _ x y=>[x,y]
  | .index _ x y=>[x,y]
  | .binOp _ _ x y _=>[x,y]
  | .unOp _ _ x=>[x]
  | .pick x y z=>[x,y,z]
  | .call c=>c.args.toList
  | .buildSlice _ _ ps=>ps.toList.map (·.2)
  | .extract x _=>[x]
  | .convert _ _ x=>[x]
  | .slice _ x l h m=>[x] ++ l.toList ++ h.toList ++ m.toList
  | .build _ xs=>xs.toList.map (·.2)
  | .nilCheck x=>[x]
  | _=>[]
def gT (ops : List Oper) : Option (Nat × Bool) → List Operand
  | none=>[]
  | some (j,_)=>match (ops[j]?).bind (·.dst) with | some d=>[.tmp d] | none=>[]
def seen (t : List (Nat × AV)) : List Operand → List (Nat × AV)
  | []=>[]
  | .tmp d :: r=>match look t d with | some x=>(d,x) :: seen t r | none=>seen t r
  | _ :: r=>seen t r
theorem seen_look {t : List (Nat × AV)} : ∀ {l : List Operand} {d : Nat} {x : AV}, look (seen t l) d = some x → look t d = some x ∧ Operand.tmp d ∈ l
  | [],d,x,h=>by cases h
  | .tmp e :: r,d,x,h=>by
    unfold seen at h
    split at h
    · rename_i y hy
      rw [look_cons] at h
      by_cases q:e=d
      · subst q; rw [if_pos rfl] at h; injection h with h; subst h; exact ⟨hy,List.mem_cons_self ..⟩
      · rw [if_neg q] at h
        have:=seen_look h
        exact ⟨this.1,List.mem_cons_of_mem _ this.2⟩
    · have := seen_look h
      exact ⟨this.1,List.mem_cons_of_mem _ this.2⟩
  | .const _ :: r,d,x,h=>by have:=seen_look (l:=r) h; exact ⟨this.1,List.mem_cons_of_mem _ this.2⟩
  | .func _ :: r,d,x,h=>by have:=seen_look (l:=r) h; exact ⟨this.1,List.mem_cons_of_mem _ this.2⟩
  | .global _ :: r,d,x,h=>by have:=seen_look (l:=r) h; exact ⟨this.1,List.mem_cons_of_mem _ this.2⟩
def ctx (l:List Oper) (o:Oper) (t:List (Nat × AV)):List (Nat × AV):=seen t (gT l o.guard ++ opT o.op)
def Draw (P : Program) (l0 : List Oper) (n : Nat) (b : List (List AV)) (h0 : Rows_) : List Oper → List (Nat × AV) → Nat → Option Rows_ → (List (Nat × AV) → Option Rows_ → Prop) → Prop
  | [],t,k,r,K=>K t r
  | o :: rest, t, k, r, K => ∃ d x e, o.dst = some d ∧ Nat.blt d n = true ∧ Does P l0.toArray o (ctx l0 o t) b h0 x e ∧
    (match e with
    | .pure=>Draw P l0 n b h0 rest ((d,x) :: t) k r K
    | .box j=>j=k∧Nat.blt k b.length=true∧Draw P l0 n b h0 rest ((d,x) :: t) (k + 1) r K
    | .rows h=>r=none∧Draw P l0 n b h0 rest ((d,x) :: t) k (some h) K)
abbrev Plan:=List (Nat × AV × Eff)
def tabs (p:Plan) (t:List (Nat × AV)):List (Nat × AV):=(p.map fun q=>(q.1,q.2.1)).reverse ++ t
theorem tabs_cons (d:Nat) (x:AV) (e:Eff) (p:Plan) (t:List (Nat × AV)):tabs ((d,x,e) :: p) t=tabs p ((d,x) :: t):=by simp [tabs]
structure PlanOk (P : Program) (l0 : List Oper) (n : Nat) (b : List (List AV)) (h0 : Rows_) (l : List Oper) (t : List (Nat × AV)) (k : Nat) (r : Option Rows_) (p : Plan) (r' : Option Rows_) : Prop where
  len:p.length=l.length
  each:∀ (i:Nat) (o:Oper) (d:Nat) (x:AV) (e:Eff),l[i]?=some o→p[i]?=some (d,x,e)→o.dst=some d∧d<n∧Does P l0.toArray o (ctx l0 o (tabs (p.take i) t)) b h0 x e
  boxk:∀ (i:Nat) (d:Nat) (x:AV) (j:Nat),p[i]?=some (d,x,.box j)→k≤j∧j<b.length
  boxu:∀ (i i':Nat) (d d':Nat) (x x':AV) (j:Nat),p[i]?=some (d,x,.box j)→p[i']?=some (d',x',.box j)→i=i'
  row:∀ (i:Nat) (d:Nat) (x:AV) (h:Rows_),p[i]?=some (d,x,.rows h)→r=none∧r'=some h
  rowu:∀ (i i':Nat) (d d':Nat) (x x':AV) (h h':Rows_),p[i]?=some (d,x,.rows h)→p[i']?=some (d',x',.rows h')→i=i'
  rowr:r'=r ∨ ∃ (i:Nat) (d:Nat) (x:AV) (h:Rows_),p[i]?=some (d,x,.rows h)∧r'=some h
theorem plan_of {P : Program} {l0 : List Oper} {n : Nat} {b : List (List AV)} {h0 : Rows_} {K : List (Nat × AV) → Option Rows_ → Prop} : ∀ {l : List Oper} {t : List (Nat × AV)} {k : Nat} {r : Option Rows_}, Draw P l0 n b h0 l t k r K →
    ∃ p r',PlanOk P l0 n b h0 l t k r p r'∧K (tabs p t) r'
  | [],t,k,r,h=>⟨[],r,{ len:=rfl,each:=(fun i o d x e h=>by simp at h),boxk:=(fun i d x j h=>by simp at h),boxu:=(fun i i' d d' x x' j h=>by simp at h),row:=(fun i d x j h=>by simp at h),rowu:=(fun i i' d d' x x' j h h1=>by simp at h1),rowr:=.inl rfl },h⟩
  | o :: rest,t,k,r,h=>by
    obtain ⟨d,x,e,hd,hn,hdo,hr⟩:=h
    have hn:=by simpa [Nat.blt_eq] using hn
    have key:∀ k1 r1,Draw P l0 n b h0 rest ((d,x) :: t) k1 r1 K→(k≤k1)→(∀ j,e=.box j→j=k∧k1=k + 1∧k<b.length)→(∀ h,e=.rows h→r=none∧r1=some h)→((∀ h,e ≠ .rows h)→r1=r)→∃ p r',PlanOk P l0 n b h0 (o :: rest) t k r p r'∧K (tabs p t) r':=by
      intro k1 r1 hD hk hbox hrows hnr
      obtain ⟨p,r',hp,hK⟩:=plan_of hD
      refine ⟨(d,x,e) :: p,r',?_,by rw [tabs_cons]; exact hK⟩
      refine { len:=by simp [hp.len],each:=?_,boxk:=?_,boxu:=?_,row:=?_,rowu:=?_,rowr:=?_ }
      · intro i o' d' x' e' ho hpi
        cases i with
        | zero =>
          simp at ho hpi
          obtain ⟨rfl,rfl,rfl⟩:=hpi
          subst ho
          exact ⟨hd,hn,by simpa [tabs] using hdo⟩
        | succ i =>
          have:=hp.each i o' d' x' e' (by simpa using ho) (by simpa using hpi)
          rw [List.take_succ_cons,tabs_cons]
          exact this
      · intro i d' x' j hpi
        cases i with
        | zero =>
          simp at hpi
          obtain ⟨_,_,rfl⟩:=hpi
          obtain ⟨q1,q2,q3⟩:=hbox j rfl
          exact ⟨Nat.le_of_eq q1.symm,q1 ▸ q3⟩
        | succ i =>
          have:=hp.boxk i d' x' j (by simpa using hpi)
          exact ⟨Nat.le_trans hk this.1,this.2⟩
      · intro i i' d1 d2 x1 x2 j h1 h2
        cases i with
        | zero =>
          simp at h1
          obtain ⟨_,_,rfl⟩:=h1
          cases i' with
          | zero=>rfl
          | succ i' =>
            have h3:=hp.boxk i' d2 x2 j (by simpa using h2)
            have:=hbox j rfl
            omega
        | succ i =>
          cases i' with
          | zero =>
            simp at h2
            obtain ⟨_,_,rfl⟩:=h2
            have h3:=hp.boxk i d1 x1 j (by simpa using h1)
            have:=hbox j rfl
            omega
          | succ i'=>rw [hp.boxu i i' d1 d2 x1 x2 j (by simpa using h1) (by simpa using h2)]
      · intro i d' x' h' hpi
        cases i with
        | zero =>
          simp at hpi
          obtain ⟨_,_,rfl⟩:=hpi
          obtain ⟨h1,h2⟩:=hrows h' rfl
          refine ⟨h1,?_⟩
          rcases hp.rowr with h3 | ⟨i,d3,x3,h3,h4,_⟩
          · rw [h3,h2]
          · have:=(hp.row i d3 x3 h3 h4).1; rw [h2] at this; cases this
        | succ i =>
          obtain ⟨h1,h2⟩:=hp.row i d' x' h' (by simpa using hpi)
          refine ⟨?_,h2⟩
          cases e with
          | rows h3=>have:=(hrows h3 rfl).2; rw [h1] at this; cases this
          | pure=>rw [← hnr (by intro h e; cases e)]; exact h1
          | box j=>rw [← hnr (by intro h e; cases e)]; exact h1
      · intro i i' d1 d2 x1 x2 g1 g2 h1 h2
        cases i with
        | zero =>
          simp at h1
          obtain ⟨_,_,rfl⟩:=h1
          cases i' with
          | zero=>rfl
          | succ i' =>
            have:=(hp.row i' d2 x2 g2 (by simpa using h2)).1
            rw [(hrows g1 rfl).2] at this; cases this
        | succ i =>
          cases i' with
          | zero =>
            simp at h2
            obtain ⟨_,_,rfl⟩:=h2
            have:=(hp.row i d1 x1 g1 (by simpa using h1)).1
            rw [(hrows g2 rfl).2] at this; cases this
          | succ i'=>rw [hp.rowu i i' d1 d2 x1 x2 g1 g2 (by simpa using h1) (by simpa using h2)]
      · rcases hp.rowr with h3 | ⟨i, d3, x3, h3, h4, h5⟩
        · cases e with
          | rows h6=>exact .inr ⟨0,d,x,h6,by simp,by rw [h3]; exact (hrows h6 rfl).2⟩
          | pure=>exact .inl (by rw [h3]; exact hnr (by intro h e; cases e))
          | box j=>exact .inl (by rw [h3]; exact hnr (by intro h e; cases e))
        · exact .inr ⟨i + 1,d3,x3,h3,by simpa using h4,h5⟩
    cases e with
    | pure=>exact key k r hr (Nat.le_refl _) (by intro j e; cases e) (by intro j e; cases e) (fun _=>rfl)
    | box j=>exact key (k + 1) r hr.2.2 (Nat.le_succ _) (by intro j' e; injection e with e; subst e; exact ⟨hr.1,rfl,by simpa [Nat.blt_eq] using hr.2.1⟩) (by intro j e; cases e) (fun _=>rfl)
    | rows h=>exact key k (some h) hr.2 (Nat.le_refl _) (by intro j e; cases e) (by intro h' e; injection e with e; subst e; exact ⟨hr.1,rfl⟩) (fun hh=>absurd rfl (hh h))
def predsOf (o:Oper):List Nat:=(o.after.toList.filter fun e=>Region.binds .any e).map (·.on)
def dstIs (l:List Oper) (d:Nat):Bool:=l.any fun o=>match o.dst with | some e=>Nat.beq e d | none=>false
def okD (l:List Oper) (o:Oper) (d:Nat):Bool:=!dstIs l d || (predsOf o).any fun j=>match (l[j]?).bind (·.dst) with | some e=>Nat.beq e d | none=>false
def okO (l : List Oper) (o : Oper) : Operand → Bool
  | .tmp d=>okD l o d
  | _=>true
def nodupD : List Oper → Bool
  | []=>true
  | o :: r=>(match o.dst with | some d=>!dstIs r d | none=>true) && nodupD r
def drawChk (l:List Oper) (m:Nat):Bool :=
  nodupD l && (List.range l.length).all (fun i=>match l[i]? with
    | some o=>(predsOf o).all (fun j=>Nat.blt j i) && (gT l o.guard ++ opT o.op).all (okO l o) && (Nat.beq (i + 1) l.length || Nat.beq m l.length || (List.range l.length).any fun k=>match l[k]? with | some q=>(predsOf q).contains i | none=>false)
    | none=>true)
theorem dstIs_iff {l:List Oper} {d:Nat}:dstIs l d=true ↔ ∃ (i:Nat) (o:Oper),l[i]?=some o∧o.dst=some d:=by
  unfold dstIs
  rw [List.any_eq_true]
  constructor
  · rintro ⟨o, ho, h⟩
    obtain ⟨i,hi,rfl⟩:=List.getElem_of_mem ho
    refine ⟨i,_,List.getElem?_eq_getElem hi,?_⟩
    split at h
    · rename_i e he; rw [he,Nat.eq_of_beq_eq_true h]
    · cases h
  · rintro ⟨i, o, ho, h⟩
    exact ⟨o,List.mem_of_getElem? ho,by rw [h]; simp⟩
theorem nodupD_spec : ∀ {l : List Oper}, nodupD l = true → ∀ (i j : Nat) (o o' : Oper) (d : Nat), l[i]? = some o → l[j]? = some o' → o.dst = some d → o'.dst = some d → i = j
  | [],h,i,j,o,o',d,h1,_,_,_=>by simp at h1
  | q :: r,h,i,j,o,o',d,h1,h2,h3,h4=>by
    unfold nodupD at h
    rw [Bool.and_eq_true] at h
    have hq:∀ (k:Nat) (o:Oper),r[k]?=some o→o.dst=some d→q.dst ≠ some d:=fun k o hk ho hqd=>by
      have h5:=h.1
      rw [hqd] at h5
      have:dstIs r d=true:=dstIs_iff.2 ⟨k,o,hk,ho⟩
      simp [this] at h5
    cases i with
    | zero =>
      cases j with
      | zero=>rfl
      | succ j=>simp at h1 h2; subst h1; exact absurd h3 (hq j o' h2 h4)
    | succ i =>
      cases j with
      | zero=>simp at h1 h2; subst h2; exact absurd h4 (hq i o h1 h3)
      | succ j=>rw [nodupD_spec h.2 i j o o' d (by simpa using h1) (by simpa using h2) h3 h4]
structure Chk (l : List Oper) (m : Nat) : Prop where
  nodup:∀ (i j:Nat) (o o':Oper) (d:Nat),l[i]?=some o→l[j]?=some o'→o.dst=some d→o'.dst=some d→i=j
  lt:∀ (i:Nat) (o:Oper) (j:Nat),l[i]?=some o→j ∈ predsOf o→j<i
  op:∀ (i:Nat) (o:Oper) (d:Nat),l[i]?=some o→Operand.tmp d ∈ gT l o.guard ++ opT o.op→dstIs l d=true→∃ (j:Nat) (q:Oper),j ∈ predsOf o∧l[j]?=some q∧q.dst=some d
  last:∀ (i:Nat) (o:Oper),l[i]?=some o→i + 1 ≠ l.length→m ≠ l.length→∃ (k:Nat) (q:Oper),l[k]?=some q∧i ∈ predsOf q
theorem chk_of {l:List Oper} {m:Nat} (h:drawChk l m=true):Chk l m:=by
  unfold drawChk at h
  rw [Bool.and_eq_true,List.all_eq_true] at h
  have h2:∀ i o,l[i]?=some o→(predsOf o).all (fun j=>Nat.blt j i)=true∧(gT l o.guard ++ opT o.op).all (okO l o)=true∧(Nat.beq (i + 1) l.length || Nat.beq m l.length || (List.range l.length).any fun k=>match l[k]? with | some q=>(predsOf q).contains i | none=>false)=true:=fun i o ho=>by
    have hi:i<l.length:=(List.getElem?_eq_some_iff.1 ho).1
    have:=h.2 i (List.mem_range.2 hi)
    rw [ho] at this
    simp only [Bool.and_eq_true] at this
    exact ⟨this.1.1,this.1.2,this.2⟩
  refine { nodup:=nodupD_spec h.1,lt:=?_,op:=?_,last:=?_ }
  · intro i o j ho hj
    have:=List.all_eq_true.1 (h2 i o ho).1 j hj
    simpa [Nat.blt_eq] using this
  · intro i o d ho hd hl
    have:=List.all_eq_true.1 (h2 i o ho).2.1 _ hd
    simp only [okO,okD,hl,Bool.not_true,Bool.false_or,List.any_eq_true] at this
    obtain ⟨j,hj,he⟩:=this
    split at he
    · rename_i e hb
      rw [Option.bind_eq_some_iff] at hb
      obtain ⟨q,hq,hqd⟩:=hb
      exact ⟨j,q,hj,hq,by rw [hqd,Nat.eq_of_beq_eq_true he]⟩
    · cases he
  · intro i o ho hi hm
    have:=(h2 i o ho).2.2
    simp only [Bool.or_eq_true,List.any_eq_true] at this
    rcases this with (h3 | h3) | ⟨k,hk,h3⟩
    · exact absurd (Nat.eq_of_beq_eq_true h3) hi
    · exact absurd (Nat.eq_of_beq_eq_true h3) hm
    · split at h3
      · rename_i q hq
        exact ⟨k,q,hq,by simpa using h3⟩
      · cases h3
theorem count_set : ∀ (l : List Bool) (i : Nat), l[i]? = some false → (l.set i true).count false + 1 = l.count false
  | [],i,h=>by simp at h
  | x :: r,0,h=>by simp at h; subst h; simp
  | x :: r,i + 1,h=>by
    have:=count_set r i (by simpa using h)
    simp only [List.set_cons_succ,List.count_cons]
    omega
theorem tabs_look {l0 : List Oper} {n : Nat} : ∀ {p : Plan} {t : List (Nat × AV)} {d : Nat} {x : AV}, look (tabs p t) d = some x → (∃ (i : Nat) (e : Eff), p[i]? = some (d, x, e)) ∨ ((∀ (i : Nat) (y : AV) (e : Eff), p[i]? ≠ some (d, y, e)) ∧ look t d = some x)
  | [],t,d,x,h=>.inr ⟨by intro i y e; simp,h⟩
  | (d1,x1,e1) :: p,t,d,x,h=>by
    rw [tabs_cons] at h
    rcases tabs_look (l0:=l0) (n:=n) h with ⟨i,e,hi⟩ | ⟨h1,h2⟩
    · exact .inl ⟨i + 1,e,by simpa using hi⟩
    · rw [look_cons] at h2
      by_cases q:d1=d
      · subst q; rw [if_pos rfl] at h2; injection h2 with h2; subst h2; exact .inl ⟨0,e1,by simp⟩
      · rw [if_neg q] at h2
        refine .inr ⟨?_,h2⟩
        intro i y e
        cases i with
        | zero=>simp; intro h3; exact absurd h3 q
        | succ i=>simpa using h1 i y e
section
variable {P:Program} {Q:Exit→St→Prop} {n:Nat} {t0:List (Nat × AV)} {b:List (List AV)} {h0:Rows_}
structure Amid (C : Ctx) (l : List Oper) (n : Nat) (t0 : List (Nat × AV)) (b : List (List AV)) (h0 : Rows_) (p : Plan) (L : Array Bool) (E : Env) (t : List (Nat × AV)) (h : Rows_) (a : Act) (w : World) : Prop where
  inv:Inv C E ⟨n,t,b,h⟩ a w
  size:L.size=l.length
  down:∀ (i:Nat) (o:Oper) (j:Nat),l[i]?=some o→L[i]?=some true→j ∈ predsOf o→L[j]?=some true
  old:∀ (d:Nat) (x:AV),look t0 d=some x→dstIs l d=false→look t d=some x
  new:∀ (i d:Nat) (x:AV) (e:Eff),p[i]?=some (d,x,e)→L[i]?=some true→look t d=some x
  pend:∀ (i d:Nat) (x:AV) (k:Nat),p[i]?=some (d,x,.box k)→L[i]?=some false→E.gs[k]?=some none
  hold:∀ (i d:Nat) (x:AV) (h':Rows_),p[i]?=some (d,x,.rows h')→L[i]?=some false→h=h0
  hnew:∀ (i d:Nat) (x:AV) (h':Rows_),p[i]?=some (d,x,.rows h')→L[i]?=some true→h=h'
  hnone:(∀ (i d:Nat) (x:AV) (h':Rows_),p[i]? ≠ some (d,x,.rows h'))→h=h0
theorem ready_iff {l:List Oper} {L:Array Bool} {i:Nat}:i ∈ Region.ready .any l.toArray L ↔ ∃ o,l[i]?=some o∧L[i]?=some false∧∀ j ∈ predsOf o,L[j]?=some true:=by
  have hg:∀ j,L.getD j false=true ↔ L[j]?=some true:=fun j=>by
    rw [Array.getD_eq_getD_getElem?]; cases L[j]? <;> simp
  have hg2:L.getD i true=false ↔ L[i]?=some false:=by
    rw [Array.getD_eq_getD_getElem?]; cases L[i]? <;> simp
  unfold Region.ready
  simp only [List.mem_filter,List.mem_range,List.size_toArray,List.getElem?_toArray,Bool.and_eq_true,Bool.not_eq_true',hg2]
  constructor
  · rintro ⟨hi, h1, h2⟩
    rw [List.getElem?_eq_getElem hi] at h2 ⊢
    refine ⟨_,rfl,h1,fun j hj=>?_⟩
    simp only [Option.map_some,Option.getD_some,Array.all_eq_true',Bool.or_eq_true,Bool.not_eq_true'] at h2
    simp only [predsOf,List.mem_map,List.mem_filter] at hj
    obtain ⟨e,⟨he,hb⟩,rfl⟩:=hj
    rcases h2 e (by simpa using he) with h | h
    · rw [hb] at h; cases h
    · exact (hg _).1 h
  · rintro ⟨o, ho, h1, h2⟩
    refine ⟨(List.getElem?_eq_some_iff.1 ho).1,h1,?_⟩
    rw [ho]
    simp only [Option.map_some,Option.getD_some,Array.all_eq_true',Bool.or_eq_true,Bool.not_eq_true']
    intro e he
    by_cases hb:Region.binds .any e=true
    · exact .inr ((hg _).2 (h2 e.on (by simp only [predsOf,List.mem_map,List.mem_filter]; exact ⟨e,⟨by simpa using he,hb⟩,rfl⟩)))
    · exact .inl (by simpa using hb)
theorem set_at {L:Array Bool} {i j:Nat} {q:Bool} (h:(L.setIfInBounds i true)[j]?=some q):(j=i∧q=true) ∨ (j ≠ i∧L[j]?=some q):=by
  rw [Array.getElem?_setIfInBounds] at h
  by_cases e:i=j
  · subst e
    rw [if_pos rfl] at h
    split at h
    · injection h with h; exact .inl ⟨rfl,h.symm⟩
    · cases h
  · rw [if_neg e] at h; exact .inr ⟨fun h=>e h.symm,h⟩
theorem set_true {L:Array Bool} {i j:Nat} (h:L[j]?=some true):(L.setIfInBounds i true)[j]?=some true:=by
  rw [Array.getElem?_setIfInBounds]
  have hj:j<L.size:=(Array.getElem?_eq_some_iff.1 h).1
  by_cases e:i=j
  · subst e; rw [if_pos rfl,if_pos hj]
  · rw [if_neg e]; exact h
theorem all_in {C : Ctx} {l : List Oper} {m : Nat} {p : Plan} {r' : Option Rows_} {k0 : Nat} {L : Array Bool} {E : Env} {t : List (Nat × AV)} {h : Rows_} {a : Act} {w : World} (hp : PlanOk P l n b h0 (l.take m) t0 k0 none p r')
    (ht:∀ o,l[m]?=some o→o.dst=none) (hml:m=l.length ∨ m + 1=l.length) (hA:Amid C l n t0 b h0 p L E t h a w) (hall:∀ i,i<m→L[i]?=some true):Inv C E ⟨n,tabs p t0,b,r'.getD h0⟩ a w:=by
  have hpl:p.length=m:=by rw [hp.len,List.length_take]; omega
  have hh:h=r'.getD h0:=by
    rcases hp.rowr with h1 | ⟨i,d,x,h1,h2,h3⟩
    · rw [h1]
      refine hA.hnone fun i d x h' h2=>?_
      have:=(hp.row i d x h' h2).2
      rw [h1] at this; cases this
    · rw [h3]
      exact hA.hnew i d x h1 h2 (hall i (by rw [← hpl]; exact (List.getElem?_eq_some_iff.1 h2).1))
  rw [← hh]
  refine hA.inv.less (t:=tabs p t0) fun d x hd=>?_
  rcases tabs_look (l0:=l) (n:=n) hd with ⟨i,e,hi⟩ | ⟨h1,h2⟩
  · exact hA.new i d x e hi (hall i (by rw [← hpl]; exact (List.getElem?_eq_some_iff.1 hi).1))
  · refine hA.old d x h2 ?_
    cases hb:dstIs l d with
    | false=>rfl
    | true =>
      obtain ⟨i,o,ho,hod⟩:=dstIs_iff.1 hb
      have hil:i<l.length:=(List.getElem?_eq_some_iff.1 ho).1
      by_cases him:i<m
      · have hpi : p[i]? = some (p[i]'(by omega)) := List.getElem?_eq_getElem (by omega)
        generalize p[i]'(by omega)=pi at hpi
        obtain ⟨d2,x2,e2⟩:=pi
        have:=(hp.each i o d2 x2 e2 (by rw [List.getElem?_take,if_pos him]; exact ho) hpi).1
        rw [hod] at this
        injection this with this
        subst this
        exact absurd hpi (h1 i x2 e2)
      · have : i = m := by omega
        subst this
        rw [ht o ho] at hod; cases hod
theorem any_run {C : Ctx} {l : List Oper} {m : Nat} {p : Plan} {r' : Option Rows_} {k0 : Nat} (hc : Chk l m) (hp : PlanOk P l n b h0 (l.take m) t0 k0 none p r') (ht : ∀ o, l[m]? = some o → o.dst = none) (hml : m = l.length ∨ m + 1 = l.length)
    (fin:AOps P l.toArray (l.drop m) Q ⟨n,tabs p t0,b,r'.getD h0⟩) :
    ∀ (fuel:Nat) (L:Array Bool) (E:Env) (t:List (Nat × AV)) (h:Rows_) (a:Act) (w:World),Amid C l n t0 b h0 p L E t h a w→L[m]? ≠ some true→L.toList.count false=fuel→wpAny P .any l.toArray (Lift C Q) fuel L a w:=by
  have hpl:p.length=m:=by rw [hp.len,List.length_take]; omega
  intro fuel
  induction fuel with
  | zero =>
    intro L E t h a w hA hLm hcount
    have hno:∀ i,i<l.length→L[i]?=some true:=fun i hi=>by
      have hi':i<L.size:=by rw [hA.size]; exact hi
      rw [Array.getElem?_eq_getElem hi']
      cases hq:L[i] with
      | true=>rfl
      | false=>exact absurd (List.count_eq_zero.1 hcount) (by simp only [Classical.not_not]; rw [← hq]; simp)
    have hmm:m=l.length:=by
      rcases hml with h1 | h1
      · exact h1
      · exact absurd (hno m (by omega)) hLm
    refine ⟨?_,?_⟩
    · rw [List.eq_nil_iff_forall_not_mem]
      intro i hi
      obtain ⟨o,ho,hf,_⟩:=ready_iff.1 hi
      rw [hno i (List.getElem?_eq_some_iff.1 ho).1] at hf; cases hf
    · have := fin C E a w (all_in hp ht hml hA fun i hi => hno i (by omega))
      rw [List.drop_of_length_le (by omega)] at this
      exact this
  | succ fuel ih =>
    intro L E t h a w hA hLm hcount
    refine ⟨fun hnil=>?_,fun i hi=>?_⟩
    · exfalso
      have hex:∃ i:Nat,L[i]?=some false:=by
        have:false ∈ L.toList:=by
          refine List.one_le_count_iff.1 ?_
          omega
        obtain ⟨i,hi,he⟩:=List.getElem_of_mem this
        exact ⟨i,by rw [Array.getElem?_eq_getElem (by simpa using hi)]; simpa using he⟩
      obtain ⟨i0,hi0⟩:=hex
      obtain ⟨i,hi,hmin⟩:=least (p:=fun i:Nat=>L[i]?=some false) i0 hi0
      have hil:i<l.length:=by rw [← hA.size]; exact (Array.getElem?_eq_some_iff.1 hi).1
      have:i ∈ Region.ready .any l.toArray L:=ready_iff.2 ⟨_,List.getElem?_eq_getElem hil,hi,fun j hj=>by
        have hji:=hc.lt i _ j (List.getElem?_eq_getElem hil) hj
        have hj':j<L.size:=by rw [hA.size]; omega
        rw [Array.getElem?_eq_getElem hj']
        cases hq:L[j] with
        | true=>rfl
        | false=>exact absurd (hmin j (by rw [Array.getElem?_eq_getElem hj',hq])) (by omega)⟩
      rw [hnil] at this; cases this
    · obtain ⟨o, ho, hf, hpre⟩ := ready_iff.1 hi
      have hil:i<l.length:=(List.getElem?_eq_some_iff.1 ho).1
      have hiL:i<L.size:=by rw [hA.size]; exact hil
      have hcnt:(L.setIfInBounds i true).toList.count false=fuel:=by
        have h1:=count_set L.toList i (by simpa using hf)
        rw [Array.toList_setIfInBounds]
        omega
      unfold wpOp
      rw [show l.toArray[i]?=some o by simpa using ho]
      simp only
      by_cases him:i<m
      · have hpi : p[i]? = some (p[i]'(by omega)) := List.getElem?_eq_getElem (by omega)
        generalize p[i]'(by omega)=pi at hpi
        obtain ⟨d,x,e⟩:=pi
        obtain ⟨hd,hdn,hdo⟩:=hp.each i o d x e (by rw [List.getElem?_take,if_pos him]; exact ho) hpi
        have hdst:∀ (i' d':Nat) (x':AV) (e':Eff),p[i']?=some (d',x',e')→∃ o',l[i']?=some o'∧o'.dst=some d':=fun i' d' x' e' h1=>by
          have hi':i'<m:=by rw [← hpl]; exact (List.getElem?_eq_some_iff.1 h1).1
          have hl':l[i']?=some (l[i']'(by omega)):=List.getElem?_eq_getElem (by omega)
          exact ⟨_,hl',(hp.each i' _ d' x' e' (by rw [List.getElem?_take,if_pos hi']; exact hl') h1).1⟩
        have hsub:Sub (ctx l o (tabs (p.take i) t0)) t:=fun d' x' hd'=>by
          obtain ⟨h1,h2⟩:=seen_look hd'
          cases hb:dstIs l d' with
          | true =>
            obtain ⟨j,q,hj,hlq,hqd⟩:=hc.op i o d' ho h2 hb
            have hji:=hc.lt i o j ho hj
            have hpj:p[j]?=some (p[j]'(by omega)):=List.getElem?_eq_getElem (by omega)
            generalize p[j]'(by omega)=pj at hpj
            obtain ⟨d3,x3,e3⟩:=pj
            obtain ⟨o3,ho3,hd3⟩:=hdst j d3 x3 e3 hpj
            rw [hlq] at ho3
            injection ho3 with ho3
            subst ho3
            rw [hqd] at hd3
            injection hd3 with hd3
            subst hd3
            rcases tabs_look (l0:=l) (n:=n) h1 with ⟨i',e',h3⟩ | ⟨h3,_⟩
            · rw [List.getElem?_take] at h3
              split at h3
              · obtain ⟨o4, ho4, hd4⟩ := hdst i' d' x' e' h3
                have:i'=j:=hc.nodup i' j o4 q d' ho4 hlq hd4 hqd
                subst this
                exact hA.new i' d' x' e' h3 (hpre i' hj)
              · cases h3
            · exact absurd (by rw [List.getElem?_take,if_pos hji]; exact hpj) (h3 j x3 e3)
          | false =>
            rcases tabs_look (l0:=l) (n:=n) h1 with ⟨i',e',h3⟩ | ⟨_,h3⟩
            · rw [List.getElem?_take] at h3
              split at h3
              · obtain ⟨o4, ho4, hd4⟩ := hdst i' d' x' e' h3
                have:=dstIs_iff.2 ⟨i',o4,ho4,hd4⟩
                rw [hb] at this; cases this
              · cases h3
            · exact hA.old d' x' h3 hb
        have hLm':(L.setIfInBounds i true)[m]? ≠ some true:=fun h1=>by
          rcases set_at h1 with ⟨h2,_⟩ | ⟨_,h2⟩
          · omega
          · exact hLm h2
        have next : ∀ E' h' u w', Inv C E' ⟨n, t, b, h'⟩ a w' → RepT E' h' w' x u → (∀ (i' d' : Nat) (x' : AV) (k : Nat), p[i']? = some (d', x', .box k) → i' ≠ i → L[i']? = some false → E'.gs[k]? = some none) →
            ((∀ h1,e ≠ .rows h1)→h'=h)→(∀ h1,e=.rows h1→h'=h1)→wpAny P .any l.toArray (Lift C Q) fuel (L.setIfInBounds i true) (a.put o.dst u) w':=by
          intro E' h' u w' hI' hx hpend hh1 hh2
          refine ih _ E' ((d,x) :: t) h' _ w' ?_ hLm' hcnt
          rw [hd]
          refine { inv:=hI'.put hdn hx,size:=by rw [Array.size_setIfInBounds]; exact hA.size,down:=?_,old:=?_,new:=?_,pend:=?_,hold:=?_,hnew:=?_,hnone:=?_ }
          · intro i' o' j h1 h2 hj
            rcases set_at h2 with ⟨h3,_⟩ | ⟨_,h3⟩
            · subst h3
              rw [ho] at h1; injection h1 with h1; subst h1
              exact set_true (hpre j hj)
            · exact set_true (hA.down i' o' j h1 h3 hj)
          · intro d' x' h1 h2
            rw [look_cons,if_neg (fun e=>by
              subst e
              rw [dstIs_iff.2 ⟨i,o,ho,hd⟩] at h2; cases h2)]
            exact hA.old d' x' h1 h2
          · intro i' d' x' e' h1 h2
            rw [look_cons]
            rcases set_at h2 with ⟨h3,_⟩ | ⟨h4,h3⟩
            · subst h3
              rw [hpi] at h1
              simp only [Option.some.injEq,Prod.mk.injEq] at h1
              rw [if_pos h1.1,h1.2.1]
            · rw [if_neg (fun e=>by
                subst e
                obtain ⟨o4,ho4,hd4⟩:=hdst i' d x' e' h1
                exact h4 (hc.nodup i' i o4 o d ho4 ho hd4 hd))]
              exact hA.new i' d' x' e' h1 h3
          · intro i' d' x' k h1 h2
            rcases set_at h2 with ⟨_,h3⟩ | ⟨h4,h3⟩
            · cases h3
            · exact hpend i' d' x' k h1 h4 h3
          · intro i' d' x' h1 h2 h3
            rcases set_at h3 with ⟨_,h4⟩ | ⟨h5,h4⟩
            · cases h4
            · have:∀ h6,e ≠ .rows h6:=fun h6 h7=>by
                subst h7
                exact h5 (hp.rowu i' i d' d x' x h1 h6 h2 hpi)
              rw [hh1 this]
              exact hA.hold i' d' x' h1 h2 h4
          · intro i' d' x' h1 h2 h3
            rcases set_at h3 with ⟨h4,_⟩ | ⟨h5,h4⟩
            · subst h4
              rw [hpi] at h2
              simp only [Option.some.injEq,Prod.mk.injEq] at h2
              exact hh2 h1 h2.2.2
            · have:∀ h6,e ≠ .rows h6:=fun h6 h7=>by
                subst h7
                exact h5 (hp.rowu i' i d' d x' x h1 h6 h2 hpi)
              rw [hh1 this]
              exact hA.hnew i' d' x' h1 h2 h4
          · intro h1
            rw [hh1 (fun h6 h7=>by subst h7; exact h1 i d x h6 hpi)]
            exact hA.hnone h1
        have done:RunOp P l.toArray o a w (wpAny P .any l.toArray (Lift C Q) fuel (L.setIfInBounds i true)) (Lift C Q):=by
          cases e with
          | pure =>
            refine hdo C E _ a w hA.inv rfl hsub _ _ fun E' u w' hg hI' hx=>?_
            exact next E' h u w' (hI' _ hA.inv) hx (fun i' d' x' k h1 _ h3=>by rw [hg]; exact hA.pend i' d' x' k h1 h3) (fun _=>rfl) (fun h1 e=>by cases e)
          | box k =>
            refine hdo C E _ a w hA.inv rfl hsub (hA.pend i d x k hpi hf) _ _ fun E' u w' hg hI' hx=>?_
            refine next E' h u w' (hI' _ rfl hA.inv) hx (fun i' d' x' k' h1 h2 h3=>?_) (fun _=>rfl) (fun h1 e=>by cases e)
            rw [hg k' (fun e=>by subst e; exact h2 (hp.boxu i' i d' d x' x k' h1 hpi))]
            exact hA.pend i' d' x' k' h1 h3
          | rows h1 =>
            refine hdo C E _ a w hA.inv rfl hsub (hA.hold i d x h1 hpi hf) _ _ fun E' u w' hg hI' hx=>?_
            exact next E' h1 u w' (hI' _ rfl hA.inv) hx (fun i' d' x' k h1 _ h3=>by rw [hg]; exact hA.pend i' d' x' k h1 h3) (fun h2=>absurd rfl (h2 h1)) (fun h2 e=>by injection e)
        unfold RunOp at done
        split at done
        · rename_i hw; rw [if_pos hw]; exact .inl done
        · rename_i hw; rw [if_neg hw]; exact done
      · have hm1 : m + 1 = l.length := by omega
        have hme:i=m:=by omega
        subst hme
        have hall:∀ k,∀ j,j + k=i→L[j]?=some true ∨ k=0:=by
          intro k
          induction k using Nat.strongRecOn with
          | _ k ihk =>
            intro j hj
            by_cases hk:k=0
            · exact .inr hk
            · have hlj : l[j]? = some (l[j]'(by omega)) := List.getElem?_eq_getElem (by omega)
              obtain ⟨q,o',hq,hjq⟩:=hc.last j _ hlj (by omega) (by omega)
              have hjlt:=hc.lt q o' j hq hjq
              have hql:q<l.length:=(List.getElem?_eq_some_iff.1 hq).1
              by_cases hqi:q=i
              · subst hqi
                rw [ho] at hq; injection hq with hq; subst hq
                exact .inl (hpre j hjq)
              · rcases ihk (i - q) (by omega) q (by omega) with h1 | h1
                · exact .inl (hA.down q o' j hq h1 hjq)
                · omega
        have hAll:∀ j,j<i→L[j]?=some true:=fun j hj=>by
          rcases hall (i - j) j (by omega) with h1 | h1
          · exact h1
          · omega
        have hfin:=fin C E a w (all_in hp ht hml hA hAll)
        have hdrop:l.drop i=[o]:=by
          rw [List.drop_eq_getElem_cons hil,List.drop_of_length_le (by omega)]
          congr 1
          exact (List.getElem?_eq_some_iff.1 ho).2
        rw [hdrop] at hfin
        have hready:Region.ready .any l.toArray (L.setIfInBounds i true)=[]:=by
          rw [List.eq_nil_iff_forall_not_mem]
          intro j hj
          obtain ⟨o',ho',hf',_⟩:=ready_iff.1 hj
          have hjl:j<l.length:=(List.getElem?_eq_some_iff.1 ho').1
          rcases set_at hf' with ⟨_,h1⟩ | ⟨h1,h2⟩
          · cases h1
          · rw [hAll j (by omega)] at h2; cases h2
        have hK:∀ a w,wpList P l.toArray (Lift C Q) [] a w→wpAny P .any l.toArray (Lift C Q) fuel (L.setIfInBounds i true) a w:=fun a w h1=>wpAny_done hready h1 fuel
        unfold wpList at hfin
        split at hfin
        · rename_i hw
          rw [if_pos hw]
          rcases hfin with h1 | h1
          · exact .inl (Oper.wp_mono hK h1)
          · exact .inr h1
        · rename_i hw
          rw [if_neg hw]
          exact hK _ _ hfin
end
class Mixed (P : Program) : Prop where
  out:P.follows .mixedOrders=true
section
variable {P:Program} {Q:Exit→St→Prop} {n:Nat} {t t0:List (Nat × AV)} {b:List (List AV)} {h h0:Rows_} {C:Ctx} {E:Env} {a:Act} {w:World}
theorem Inv.pend (hI:Inv C E ⟨n,t,b,h⟩ a w) (pd:List (List AV)):Inv C { E with gs:=E.gs ++ pd.map fun _=>none } ⟨n,t,b ++ pd,h⟩ a { w with drawn:=w.drawn + 1 }:=by
  have hin:∀ (i g:Nat),(E.gs ++ pd.map fun _=>none)[i]?=some (some g)→E.gs[i]?=some (some g):=fun i g hh=>by
    by_cases hi:i<E.gs.length
    · rw [List.getElem?_append_left hi] at hh; exact hh
    · rw [List.getElem?_append_right (by omega), List.getElem?_map] at hh
      cases hq:pd[i - E.gs.length]? <;> rw [hq] at hh <;> simp at hh
  have hout:∀ (i g:Nat),E.gs[i]?=some (some g)→(E.gs ++ pd.map fun _=>none)[i]?=some (some g):=fun i g hh=>by
    rw [List.getElem?_append_left (List.getElem?_eq_some_iff.1 hh).1]; exact hh
  have hrep:∀ x u,RepT E h w x u→RepT { E with gs:=E.gs ++ pd.map fun _=>none } h { w with drawn:=w.drawn + 1 } x u:=fun x u hx =>
    ⟨hx.1.mono (fun b i hF=>⟨hF,rfl⟩) hout,hx.2⟩
  exact {
    os:=hI.os,tape:=hI.tape,output:=hI.output,size:=hI.size,block:=hI.block,grow:=hI.grow,old:=hI.old,bound:=hI.bound
    pre:=fun i g hh=>hout i g (hI.pre i g hh)
    boxn:=by simp only [List.length_append,List.length_map]; rw [hI.boxn]
    boxes:=fun i g cells hg hc=>by
      have hg:=hin i g hg
      have hi:i<b.length:=by have:=hI.boxn; simp only at this; rw [← this]; exact (List.getElem?_eq_some_iff.1 hg).1
      simp only at hc
      rw [List.getElem?_append_left hi] at hc
      obtain ⟨us,ty,h1,h2⟩:=hI.boxes i g cells hg hc
      exact ⟨us,ty,h1,h2.1,h2.2.1,fun j x u hx hu=>hrep x u (h2.2.2 j x u hx hu)⟩
    fresh:=fun i g hg=>hI.fresh i g (hin i g hg)
    inj:=fun i j g h1 h2=>hI.inj i j g (hin i g h1) (hin j g h2)
    rown:=hI.rown
    rows:=fun r v n e size hv hn=>by
      obtain ⟨h1,us,h2,h3⟩:=hI.rows r v n e size hv hn
      exact ⟨h1,us,own_move_ h2 (fun k _=>rfl),h3⟩
    rinj:=hI.rinj
    rbox:=fun r i v g hv hg hh=>hI.rbox r i v g hv hg (hin i g hh)
    defers:=hI.defers
    tsz:=hI.tsz
    temps:=fun d x hd=>by
      obtain ⟨u,h1,h2⟩:=hI.temps d x hd
      exact ⟨u,h1,hrep x u h2⟩ }
theorem a_draw {id : Nat} {l : List Oper} (m : Nat) (pd : List (List AV)) [hm : Mixed P] (hc : drawChk l m = true) (hml : (Nat.beq m l.length || Nat.beq (m + 1) l.length && (match l[m]? with | some o => o.dst.isNone | none => true)) = true)
    (hd:Draw P l n (b ++ pd) h (l.take m) t b.length none (fun T r=>AOps P l.toArray (l.drop m) Q ⟨n,T,b ++ pd,r.getD h⟩)):AWP P (.region id l.toArray true) Q ⟨n,t,b,h⟩:=fun C E a w hI=>by
  obtain ⟨p,r',hp,hK⟩:=plan_of hd
  have hml':m=l.length ∨ m + 1=l.length:=by
    simp only [Bool.or_eq_true,Bool.and_eq_true] at hml
    rcases hml with h1 | ⟨h1,_⟩
    · exact .inl (Nat.eq_of_beq_eq_true h1)
    · exact .inr (Nat.eq_of_beq_eq_true h1)
  have ht:∀ o,l[m]?=some o→o.dst=none:=fun o ho=>by
    simp only [Bool.or_eq_true,Bool.and_eq_true] at hml
    rcases hml with h1 | ⟨_,h1⟩
    · rw [List.getElem?_eq_none (by rw [Nat.eq_of_beq_eq_true h1]; exact Nat.le_refl _)] at ho; cases ho
    · rw [ho] at h1; simpa using h1
  refine wp_region_any hm.out ?_
  have hrepl:∀ (i:Nat) (q:Bool),(Array.replicate l.toArray.size false)[i]?=some q→q=false:=fun i q hq=>by
    rw [Array.getElem?_replicate] at hq
    split at hq
    · injection hq with hq; exact hq.symm
    · cases hq
  refine any_run (chk_of hc) hp ht hml' hK l.toArray.size _ { E with gs:=E.gs ++ pd.map fun _=>none } t h a _ ?_ (fun e=>by cases hrepl _ _ e) (by simp)
  refine { inv:=hI.pend pd,size:=by simp,down:=?_,old:=fun d x h1 _=>h1,new:=?_,pend:=?_,hold:=fun _ _ _ _ _ _=>rfl,hnew:=?_,hnone:=fun _=>rfl }
  · intro i o j _ h2; cases hrepl _ _ h2
  · intro i d x e _ h2; cases hrepl _ _ h2
  · intro i d x k h1 _
    have hk:=hp.boxk i d x k h1
    have hlen:=hI.boxn
    simp only at hlen
    rw [List.length_append] at hk
    rw [List.getElem?_append_right (by omega),List.getElem?_map,List.getElem?_eq_getElem (by omega)]
    rfl
  · intro i d x h' _ h2; cases hrepl _ _ h2
theorem does_step {ops:Array Oper} {o:Oper} {x:AV} (hs:Step P o t b x) (hg:o.guard=none):Does P ops o t b h0 x .pure:=fun C E s a w hI hb ht K Q hK=>by
  have hw:Region.wanted o (yielded ops a.tmps)=true:=by simp [Region.wanted,hg]
  unfold RunOp
  rw [if_pos hw]
  exact hs C E s a w hI hb ht K Q hK
theorem yield_of {l:List Oper} {s:St} {j dj:Nat} {q:Bool} (hI:Inv C E s a w) (hj:(l[j]?).bind (·.dst)=some dj) (hb:look s.t dj=some (.val (.bool q))):yielded l.toArray a.tmps j=some q:=by
  obtain ⟨u,hu,hr⟩:=hI.temps dj _ hb
  have hr1:=hr.1
  cases hr1
  unfold yielded
  rw [show (l.toArray[j]?)=l[j]? by simp,hj]
  simp [hu]
theorem does_run {l:List Oper} {o:Oper} {x:AV} {j dj:Nat} {want:Bool} (hs:Step P o t b x) (hg:o.guard=some (j,want)) (hj:(l[j]?).bind (·.dst)=some dj) (hb:look t dj=some (.val (.bool want))):Does P l.toArray o t b h0 x .pure:=fun C E s a w hI hbe ht K Q hK=>by
  have hy:=yield_of hI hj (ht _ _ hb)
  have hw:Region.wanted o (yielded l.toArray a.tmps)=true:=by simp [Region.wanted,hg,hy]
  unfold RunOp
  rw [if_pos hw]
  exact hs C E s a w hI hbe ht K Q hK
theorem rep_undef {s:St}:RepT E s.h w (.tup []) undef:=⟨Rep.tup [] [] rfl (by intro j x u hx; simp at hx),by intro _ _ e; cases e⟩
theorem does_skip {l:List Oper} {o:Oper} {j dj:Nat} {want q:Bool} (hg:o.guard=some (j,want)) (hj:(l[j]?).bind (·.dst)=some dj) (hb:look t dj=some (.val (.bool q))) (hq:(q == want)=false):Does P l.toArray o t b h0 (.tup []) .pure:=fun C E s a w hI hbe ht K Q hK=>by
  have hy:=yield_of hI hj (ht _ _ hb)
  have hw:¬ Region.wanted o (yielded l.toArray a.tmps)=true:=by
    simp only [Region.wanted,hg,hy]
    intro e; revert hq e; cases q <;> cases want <;> decide
  unfold RunOp
  rw [if_neg hw]
  exact hK E undef w rfl (fun _ h=>h) rep_undef
theorem does_dead {l:List Oper} {o:Oper} {j dj:Nat} {want:Bool} (hg:o.guard=some (j,want)) (hj:(l[j]?).bind (·.dst)=some dj) (hb:look t dj=some (.tup [])):Does P l.toArray o t b h0 (.tup []) .pure:=fun C E s a w hI hbe ht K Q hK=>by
  obtain ⟨u,hu,hr⟩:=hI.temps dj _ (ht _ _ hb)
  have hr1:=hr.1
  generalize hx:AV.tup []=x at hr1
  have hw:¬ Region.wanted o (yielded l.toArray a.tmps)=true:=by
    cases hr1 with
    | tup vs us hl hrr =>
      injection hx with hx
      subst hx
      have hus:us=[]:=List.eq_nil_of_length_eq_zero (by simpa using hl)
      subst hus
      simp [Region.wanted,hg,yielded,hj,hu]
    | _=>cases hx
  unfold RunOp
  rw [if_neg hw]
  exact hK E undef w rfl (fun _ h=>h) rep_undef
theorem d_end {l0:List Oper} {k:Nat} {r:Option Rows_} {K:List (Nat × AV)→Option Rows_→Prop} (hk:K t r):Draw P l0 n b h0 [] t k r K:=hk
theorem d_do {l0 rest:List Oper} {o:Oper} {k d:Nat} {x:AV} {r:Option Rows_} {K:List (Nat × AV)→Option Rows_→Prop} (hdo:Does P l0.toArray o (ctx l0 o t) b h0 x .pure) (hd:o.dst=some d) (hn:Nat.blt d n=true) (hk:Draw P l0 n b h0 rest ((d,x) :: t) k r K):Draw P l0 n b h0 (o :: rest) t k r K :=
  ⟨d,x,.pure,hd,hn,hdo,hk⟩
theorem d_op {l0 rest:List Oper} {o:Oper} {k d:Nat} {x:AV} {r:Option Rows_} {K:List (Nat × AV)→Option Rows_→Prop} (hs:Step P o (ctx l0 o t) b x) (hg:o.guard=none) (hd:o.dst=some d) (hn:Nat.blt d n=true) (hk:Draw P l0 n b h0 rest ((d,x) :: t) k r K):Draw P l0 n b h0 (o :: rest) t k r K :=
  d_do (does_step hs hg) hd hn hk
theorem d_run {l0 rest:List Oper} {o:Oper} {k d j dj:Nat} {want:Bool} {x:AV} {r:Option Rows_} {K:List (Nat × AV)→Option Rows_→Prop} (hg:o.guard=some (j,want)) (hj:(l0[j]?).bind (·.dst)=some dj) (hb:look (ctx l0 o t) dj=some (.val (.bool want))) (hs:Step P o (ctx l0 o t) b x) (hd:o.dst=some d) (hn:Nat.blt d n=true) (hk:Draw P l0 n b h0 rest ((d,x) :: t) k r K):Draw P l0 n b h0 (o :: rest) t k r K :=
  d_do (does_run hs hg hj hb) hd hn hk
theorem d_skip {l0 rest:List Oper} {o:Oper} {k d j dj:Nat} {want q:Bool} {r:Option Rows_} {K:List (Nat × AV)→Option Rows_→Prop} (hg:o.guard=some (j,want)) (hj:(l0[j]?).bind (·.dst)=some dj) (hb:look (ctx l0 o t) dj=some (.val (.bool q))) (hq:(q == want)=false) (hd:o.dst=some d) (hn:Nat.blt d n=true) (hk:Draw P l0 n b h0 rest ((d,.tup []) :: t) k r K):Draw P l0 n b h0 (o :: rest) t k r K :=
  d_do (does_skip hg hj hb hq) hd hn hk
theorem d_dead {l0 rest:List Oper} {o:Oper} {k d j dj:Nat} {want:Bool} {r:Option Rows_} {K:List (Nat × AV)→Option Rows_→Prop} (hg:o.guard=some (j,want)) (hj:(l0[j]?).bind (·.dst)=some dj) (hb:look (ctx l0 o t) dj=some (.tup [])) (hd:o.dst=some d) (hn:Nat.blt d n=true) (hk:Draw P l0 n b h0 rest ((d,.tup []) :: t) k r K):Draw P l0 n b h0 (o :: rest) t k r K :=
  d_do (does_dead hg hj hb) hd hn hk
theorem Mem.fillBox {s:St} (hM:Mem C E s w) {k:Nat} {cells:List AV} {us:List Value} (hk:E.gs[k]?=some none) (hb:s.b[k]?=some cells) (hr:RepTs E s.h w cells us) (ty:TypeId) :
    Mem C { E with gs:=E.gs.set k (some w.heap.size) } s (w.alloc (.cells us.toArray ty (0,0))) ∧
    (∀ x u,RepT E s.h w x u→RepT { E with gs:=E.gs.set k (some w.heap.size) } s.h (w.alloc (.cells us.toArray ty (0,0))) x u):=by
  have hkl:k<E.gs.length:=(List.getElem?_eq_some_iff.1 hk).1
  have hsz:(w.alloc (.cells us.toArray ty (0,0))).heap.size=w.heap.size + 1:=by show (w.heap.push _).size=_; simp
  have hblk:∀ k,k<w.heap.size→(w.alloc (.cells us.toArray ty (0,0))).heap[k]?=w.heap[k]?:=fun k hk=>Below.heap_alloc w _ k hk
  have hnew:(w.alloc (.cells us.toArray ty (0,0))).heap[w.heap.size]?=some (.cells us.toArray ty (0,0)):=by show (w.heap.push _)[w.heap.size]?=_; simp
  have hgs:∀ (b g:Nat),E.gs[b]?=some (some g)→(E.gs.set k (some w.heap.size))[b]?=some (some g):=fun b g h=>by
    have hne:k ≠ b:=fun e=>by subst e; rw [hk] at h; cases h
    rw [List.getElem?_set_ne hne]; exact h
  have hinv:∀ (i g:Nat),(E.gs.set k (some w.heap.size))[i]?=some (some g)→E.gs[i]?=some (some g) ∨ (i=k∧g=w.heap.size):=fun i g h=>by
    by_cases hi:k=i
    · subst hi
      rw [List.getElem?_set_self hkl] at h
      injection h with h; injection h with h
      exact .inr ⟨rfl,h.symm⟩
    · rw [List.getElem?_set_ne hi] at h; exact .inl h
  have hlt:∀ (i g:Nat),E.gs[i]?=some (some g)→g<w.heap.size:=fun i g h=>by
    have hi:i<s.b.length:=by rw [← hM.boxn]; exact (List.getElem?_eq_some_iff.1 h).1
    obtain ⟨us,t,hh,_⟩:=hM.boxes i g _ h (List.getElem?_eq_getElem hi)
    exact (Array.getElem?_eq_some_iff.1 hh).1
  have hrep:∀ x u,RepT E s.h w x u→RepT { E with gs:=E.gs.set k (some w.heap.size) } s.h (w.alloc (.cells us.toArray ty (0,0))) x u:=fun x u h =>
    ⟨h.1.mono (fun b i hF=>⟨hF,cell_blk (hblk b (hM.bound b i hF))⟩) hgs,h.2⟩
  have hreps:∀ cells us',RepTs E s.h w cells us'→RepTs { E with gs:=E.gs.set k (some w.heap.size) } s.h (w.alloc (.cells us.toArray ty (0,0))) cells us':=fun cells us' h=>⟨h.1,h.2.1,fun j x u hx hu=>hrep x u (h.2.2 j x u hx hu)⟩
  refine ⟨?_,hrep⟩
  exact {
    os:=hM.os
    tape:=hM.tape
    output:=hM.output
    size:=by rw [hsz]; exact Nat.le_succ_of_le hM.size
    block:=fun k hk hn=>(hblk k (Nat.lt_of_lt_of_le hk hM.size)).trans (hM.block k hk hn)
    grow:=hM.grow
    old:=hM.old
    bound:=fun b i h=>by rw [hsz]; exact Nat.lt_succ_of_lt (hM.bound b i h)
    pre:=fun i g h=>hgs i g (hM.pre i g h)
    boxn:=by simp [hM.boxn]
    boxes:=fun i g cs hg hc=>by
      rcases hinv i g hg with hg | ⟨rfl,rfl⟩
      · obtain ⟨us', t, hh, hr'⟩ := hM.boxes i g cs hg hc
        exact ⟨us',t,(hblk g (hlt i g hg)).trans hh,hreps _ _ hr'⟩
      · rw [hb] at hc
        injection hc with hc
        subst hc
        exact ⟨us,ty,hnew,hreps _ _ hr⟩
    fresh:=fun i g hg=>by
      rcases hinv i g hg with hg | ⟨rfl,rfl⟩
      · exact hM.fresh i g hg
      · exact ⟨fun o h=>Nat.lt_irrefl _ (hM.bound _ o h),.inl hM.size⟩
    inj:=fun i j g h1 h2=>by
      rcases hinv i g h1 with q1 | ⟨e1,e2⟩ <;> rcases hinv j g h2 with q2 | ⟨e3,e4⟩
      · exact hM.inj i j g q1 q2
      · exact absurd (hlt i g q1) (by omega)
      · exact absurd (hlt j g q2) (by omega)
      · rw [e1,e3]
    rown:=hM.rown
    rows:=fun r v n e size hv hn=>by
      obtain ⟨h0,us',ho,hF⟩:=hM.rows r v n e size hv hn
      exact ⟨h0,us',ho.alloc _,hF⟩
    rinj:=hM.rinj
    rbox:=fun r i v g hv hg h=>by
      rcases hinv i g h with h | ⟨rfl,rfl⟩
      · exact hM.rbox r i v g hv hg h
      · have hr : r < s.h.length := by rw [← hM.rown]; exact (List.getElem?_eq_some_iff.1 hv).1
        obtain ⟨h0,us',ho,hF⟩:=hM.rows r v _ _ _ hv (List.getElem?_eq_getElem hr)
        exact absurd (ho.lt _ hg).2 (Nat.lt_irrefl _) }
theorem constsAV_tag {E : Env} {w : World} : ∀ {vs : List Value} {xs : List AV}, constsAV vs = some xs → ∀ x ∈ xs, ∀ c r, x ≠ .row c (.own r)
  | [],xs,h,x,hx=>by simp only [constsAV,Option.some.injEq] at h; subst h; cases hx
  | v :: vs,xs,h,x,hx=>by
    simp only [constsAV] at h
    split at h
    · rename_i y ys hy hys
      simp only [Option.some.injEq] at h
      subst h
      rcases List.mem_cons.1 hx with rfl | hx
      · exact (rep_const (F:=E.F) (gs:=E.gs) (w:=w) hy).2
      · exact constsAV_tag (E:=E) (w:=w) hys x hx
    · cases h
theorem d_alloc {l0 rest : List Oper} {k d : Nat} {ty tp : TypeId} {ps : String} {af : Array Edge} {cells : List AV} {r : Option Rows_} {K : List (Nat × AV) → Option Rows_ → Prop} [hz : Zr P ty cells] (hb : b[k]? = some cells) (hn : Nat.blt d n = true)
    (hk:Draw P l0 n b h0 rest ((d,.ptr k 0) :: t) (k + 1) r K):Draw P l0 n b h0 ({ dst:=some d,op:=.alloc ty,type:=tp,pos:=ps,after:=af,guard:=none } :: rest) t k r K:=by
  refine ⟨d,.ptr k 0,.box k,rfl,hn,?_,rfl,by rw [Nat.blt_eq]; exact (List.getElem?_eq_some_iff.1 hb).1,hk⟩
  intro C E s a w hI hbe ht hpe K Q hK
  have hw:Region.wanted ({ dst:=some d,op:=.alloc ty,type:=tp,pos:=ps,after:=af,guard:=none }:Oper) (yielded l0.toArray a.tmps)=true:=by simp [Region.wanted]
  unfold RunOp
  rw [if_pos hw]
  have hzz:=hz.out
  unfold zrK at hzz
  split at hzz
  · rename_i i hi
    split at hzz
    · rename_i z hiz
      have hc:∀ s2:St,RepTs E s2.h w cells z.cells.toList:=fun s2=>by
        have h1:=reps_const (F:=E.F) (gs:=E.gs) (w:=w) hzz
        exact ⟨h1.1,constsAV_flat hzz,fun j x u hx hu=>⟨h1.2 j x u hx hu,fun c r e=>absurd e (constsAV_tag (E:=E) (w:=w) hzz _ (List.mem_of_getElem? hx) c r)⟩⟩
      have hI':∀ s2:St,s2.b[k]?=s.b[k]?→Inv C E s2 a w→Inv C { E with gs:=E.gs.set k (some w.heap.size) } s2 a (w.alloc (.cells (z.cells.toList.toArray) ty (0,0))):=fun s2 h2 hI2=>by
        obtain ⟨hM,hr⟩:=hI2.toMem.fillBox hpe (by rw [h2,hbe]; exact hb) (hc s2) ty
        exact hI2.mem hM rfl rfl hr
      have hkl:k<E.gs.length:=(List.getElem?_eq_some_iff.1 hpe).1
      have hp:RepT { E with gs:=E.gs.set k (some w.heap.size) } s.h (w.alloc (.cells (z.cells.toList.toArray) ty (0,0))) (.ptr k 0) (.pointer (some ⟨w.heap.size,0,none⟩)) :=
        ⟨.ptr _ _ _ (List.getElem?_set_self hkl),by intro _ _ e; cases e⟩
      have hrun:(execOp a.eval ({ dst:=some d,op:=.alloc ty,type:=tp,pos:=ps,after:=af,guard:=none }:Oper)).run P w=.ok (.value (.pointer (some ⟨w.heap.size,0,none⟩))) (w.alloc (.cells (z.cells.toList.toArray) ty (0,0))):=by
        simp [execOp,Instr.alloc,zeroValue,typeInfo,hi,hiz,newVar,newRow,Sem.run_bind]
      unfold Oper.wp
      rw [hrun,Oper.upon_value]
      exact hK _ _ _ (fun j hj=>List.getElem?_set_ne (fun e=>hj e.symm)) hI' hp
    · cases hzz
  · cases hzz
theorem d_append {l0 rest : List Oper} {k d r : Nat} {tp tt e : TypeId} {ps : String} {af : Array Edge} {sz bytes : Nat} {y z : Operand} {es es2 : List (List AV)} {tag tag2 : Tag} {K : List (Nat × AV) → Option Rows_ → Prop} [hT : SlA P tt e sz bytes]
    (hy:ev (ctx l0 { dst:=some d,op:=.call { callee:=.builtin .append,args:=#[y,z],argTypes:=#[tt,tt] },type:=tp,pos:=ps,after:=af,guard:=none } t) y=some (.row es tag))
    (hz:ev (ctx l0 { dst:=some d,op:=.call { callee:=.builtin .append,args:=#[y,z],argTypes:=#[tt,tt] },type:=tp,pos:=ps,after:=af,guard:=none } t) z=some (.row es2 tag2))
    (htag:(tag=.nil∧r=h0.length∧es=[]) ∨ (tag=.own r∧h0[r]?=some (es.length,e,sz)))
    (hs1:∀ e ∈ es,e.length=sz) (hs2:∀ e ∈ es2,e.length=sz) (hb:(es.length + es2.length)*bytes≤140737488355328) (hb2:es.length + es2.length≤140737488355328) (hn:Nat.blt d n=true)
    (hk:Draw P l0 n b h0 rest ((d,.row (es ++ es2) (.own r)) :: t) k (some (putAt h0 r (es.length + es2.length,e,sz))) K) :
    Draw P l0 n b h0 ({ dst:=some d,op:=.call { callee:=.builtin .append,args:=#[y,z],argTypes:=#[tt,tt] },type:=tp,pos:=ps,after:=af,guard:=none } :: rest) t k none K:=by
  refine ⟨d,_,.rows _,rfl,hn,?_,rfl,hk⟩
  intro C E s a w hI hbe ht hh K Q hK
  have hw:Region.wanted ({ dst:=some d,op:=.call { callee:=.builtin .append,args:=#[y,z],argTypes:=#[tt,tt] },type:=tp,pos:=ps,after:=af,guard:=none }:Oper) (yielded l0.toArray a.tmps)=true:=by simp [Region.wanted]
  unfold RunOp
  rw [if_pos hw]
  obtain ⟨v',w',E',hrun,hg,hI0,hp,hI'⟩:=run_append (P:=P) (o:={ dst:=some d,op:=.call { callee:=.builtin .append,args:=#[y,z],argTypes:=#[tt,tt] },type:=tp,pos:=ps,after:=af,guard:=none }) (s:=s) rfl (ev_sub ht hy) (ev_sub ht hz) (by rw [hh]; exact htag) hs1 hs2 hb hb2 hI
  unfold Oper.wp
  rw [hrun,Oper.upon_value]
  rw [hh] at hI' hp
  exact hK E' v' w' hg (fun s2 h2 hI2=>hI' s2 (h2.trans hh) hI2) hp
theorem evs_sub {t t':List (Nat × AV)} (ht:Sub t t'):∀ {ps:List (Nat × Operand)} {k:Nat} {es:List (List AV)},evs t ps k=some es→evs t' ps k=some es:=by
  intro ps
  induction ps with
  | nil=>intro k es h; exact h
  | cons p ps ih =>
    intro k es h
    obtain ⟨i,o⟩:=p
    unfold evs at h ⊢
    by_cases hik:i=k
    · rw [if_pos hik] at h ⊢
      cases hc:(ev t o).bind cellsAV with
      | none=>rw [hc] at h; cases h
      | some cs =>
        cases hr:evs t ps (k + 1) with
        | none=>rw [hc,hr] at h; cases h
        | some css =>
          rw [hc,hr] at h
          obtain ⟨x,hx,hxc⟩:=Option.bind_eq_some_iff.1 hc
          rw [ev_sub ht hx,ih hr]
          simp only [Option.bind_some,hxc]
          exact h
    · rw [if_neg hik] at h; cases h
theorem step_lit {o : Oper} {len : Nat} {tt e : TypeId} {sz bytes : Nat} {ps : List (Nat × Operand)} {es : List (List AV)} (ho : o.op = .buildSlice tt len ps.toArray) [hT : SlA P tt e sz bytes]
    (hp:evs t ps 0=some es) (hsz:∀ e ∈ es,e.length=sz) (hlen:ps.length=len) (hb:Nat.ble (len*sz) 16777216=true):Step P o t b (.row es .no):=fun C E s a w hI hbe ht K Q hK=>by
  obtain ⟨v',w',E',hrun,hg,hrs,hI0,hpv,hI1⟩:=run_lit (P:=P) ho (evs_sub ht hp) hsz hlen hb hI
  have hput:putAt E.rs s.h.length v'=E.rs ++ [v']:=by unfold putAt; rw [if_neg (by rw [hI.rown]; exact Nat.lt_irrefl _)]
  rw [hput] at hrs
  have hInv:∀ s2:St,Inv C E s2 a w→Inv C { E' with rs:=E.rs } s2 a w':=fun s2 hI2=>by
    have hI':=hI1 s2 hI2
    have hrl:=hI2.rown
    have htag:∀ x u u',TagOk E s2.h x u→TagOk E' (s2.h ++ [(es.length,e,sz)]) x u'→TagOk { E' with rs:=E.rs } s2.h x u':=fun x u u' h1 h2 c q e1=>by
      obtain ⟨m,e0,s0,g1,g2,g3⟩:=h1 c q e1
      have hq:q<s2.h.length:=(List.getElem?_eq_some_iff.1 g1).1
      obtain ⟨m',e',s',g4,g5,g6⟩:=h2 c q e1
      rw [List.getElem?_append_left hq] at g4
      exact ⟨m',e',s',g4,g5,fun h3=>by
        have:=g6 h3
        rw [hrs,List.getElem?_append_left (by omega)] at this
        exact this⟩
    have hM':=hI'.toMem
    have hM:Mem C { E' with rs:=E.rs } s2 w':={
      os:=hM'.os,tape:=hM'.tape,output:=hM'.output,size:=hM'.size,block:=hM'.block,grow:=hM'.grow,old:=hM'.old,bound:=hM'.bound,pre:=hM'.pre,boxn:=hM'.boxn
      boxes:=fun i g cells hg1 hc=>by
        obtain ⟨us,ty,h1,h2⟩:=hM'.boxes i g cells hg1 hc
        obtain ⟨us0,ty0,h3,h4⟩:=hI2.boxes i g cells (by rw [← hg]; exact hg1) hc
        refine ⟨us,ty,h1,h2.1,h2.2.1,fun j x u hx hu=>?_⟩
        have hj:j<us0.length:=by rw [h4.1]; exact (List.getElem?_eq_some_iff.1 hx).1
        exact ⟨(h2.2.2 j x u hx hu).1,htag x _ u (h4.2.2 j x _ hx (List.getElem?_eq_getElem hj)).2 (h2.2.2 j x u hx hu).2⟩
      fresh:=hM'.fresh
      inj:=hM'.inj
      rown:=hI2.rown
      rows:=fun r v n e0 size hv hn=>by
        have hr:r<E.rs.length:=(List.getElem?_eq_some_iff.1 hv).1
        exact hM'.rows r v n e0 size (by rw [hrs,List.getElem?_append_left hr]; exact hv) (by simp only; rw [List.getElem?_append_left (by omega)]; exact hn)
      rinj:=fun r r' v v' g h1 h2=>hM'.rinj r r' v v' g (by rw [hrs,List.getElem?_append_left (List.getElem?_eq_some_iff.1 h1).1]; exact h1) (by rw [hrs,List.getElem?_append_left (List.getElem?_eq_some_iff.1 h2).1]; exact h2)
      rbox:=fun r i v g h1=>hM'.rbox r i v g (by rw [hrs,List.getElem?_append_left (List.getElem?_eq_some_iff.1 h1).1]; exact h1) }
    exact { hM with
      defers:=hI2.defers
      tsz:=hI2.tsz
      temps:=fun d x hd=>by
        obtain ⟨u,h1,h2⟩:=hI2.temps d x hd
        obtain ⟨u',h3,h4⟩:=hI'.temps d x hd
        rw [h1] at h3; injection h3 with h3; subst h3
        exact ⟨u,h1,h4.1,htag x u u h2.2 h4.2⟩ }
  unfold Oper.wp
  rw [hrun,Oper.upon_value]
  exact hK { E' with rs:=E.rs } v' w' hg hInv ⟨hpv.1.untag,fun c q e1=>by cases e1⟩
end
def One (P:Program) (o:Oper) (c:List (Nat × AV)) (b:List (List AV)) (K:AV→Prop):Prop:=∃ x,Step P o c b x∧K x
section
variable {P:Program} {Q:Exit→St→Prop} {n:Nat} {t:List (Nat × AV)} {b:List (List AV)} {h h0:Rows_} {ops:Array Oper} {rest l0:List Oper} {d:Nat} {o:Oper} {k:Nat} {r:Option Rows_} {KD:List (Nat × AV)→Option Rows_→Prop}
theorem p_none (hg:o.guard=none) (hd:o.dst=some d) (hn:Nat.blt d n=true) (k:One P o t b fun x=>AOps P ops rest Q ⟨n,(d,x) :: t,b,h⟩):AOps P ops (o :: rest) Q ⟨n,t,b,h⟩:=by
  obtain ⟨x,hs,hk⟩:=k
  exact a_val hs hg hd hn hk
theorem p_run {j dj:Nat} {want q:Bool} (hg:o.guard=some (j,want)) (hj:(ops[j]?).bind (·.dst)=some dj) (hb:look t dj=some (.val (.bool q))) (hq:q=want) (hd:o.dst=some d) (hn:Nat.blt d n=true) (k:One P o t b fun x=>AOps P ops rest Q ⟨n,(d,x) :: t,b,h⟩):AOps P ops (o :: rest) Q ⟨n,t,b,h⟩:=by
  obtain ⟨x,hs,hk⟩:=k
  subst hq
  exact aops_guard (s:=⟨n,t,b,h⟩) hg hj hb hd hn (fun _=>⟨hs,hk⟩) (fun e=>absurd rfl e)
theorem d_none (hg:o.guard=none) (hd:o.dst=some d) (hn:Nat.blt d n=true) (hk:One P o (ctx l0 o t) b fun x=>Draw P l0 n b h0 rest ((d,x) :: t) k r KD):Draw P l0 n b h0 (o :: rest) t k r KD:=by
  obtain ⟨x,hs,hk⟩:=hk
  exact d_op hs hg hd hn hk
theorem d_runq {j dj:Nat} {want q:Bool} (hg:o.guard=some (j,want)) (hj:(l0[j]?).bind (·.dst)=some dj) (hb:look (ctx l0 o t) dj=some (.val (.bool q))) (hq:q=want) (hd:o.dst=some d) (hn:Nat.blt d n=true) (hk:One P o (ctx l0 o t) b fun x=>Draw P l0 n b h0 rest ((d,x) :: t) k r KD):Draw P l0 n b h0 (o :: rest) t k r KD:=by
  obtain ⟨x,hs,hk⟩:=hk
  subst hq
  exact d_run hg hj hb hs hd hn hk
theorem d_skipq {j dj:Nat} {want q:Bool} (hg:o.guard=some (j,want)) (hj:(l0[j]?).bind (·.dst)=some dj) (hb:look (ctx l0 o t) dj=some (.val (.bool q))) (hq:q=!want) (hd:o.dst=some d) (hn:Nat.blt d n=true) (hk:Draw P l0 n b h0 rest ((d,.tup []) :: t) k r KD):Draw P l0 n b h0 (o :: rest) t k r KD :=
  d_skip hg hj hb (by subst hq; cases want <;> rfl) hd hn hk
end
section
variable {P:Program} {c:List (Nat × AV)} {b:List (List AV)} {K:AV→Prop} {dd:Option Nat} {tp:TypeId} {ps:String} {af:Array Edge} {gg:Option (Nat × Bool)}
theorem s_move {y:Operand} {x:AV} (hy:ev c y=some x) (k:K x):One P { dst:=dd,op:=.move y,type:=tp,pos:=ps,after:=af,guard:=gg } c b K:=⟨_,step_move rfl hy,k⟩
theorem s_assign {y:Operand} {x:AV} (hy:ev c y=some x) (k:K x):One P { dst:=dd,op:=.assign y,type:=tp,pos:=ps,after:=af,guard:=gg } c b K:=⟨_,step_assign rfl hy,k⟩
theorem s_pick {c' y z:Operand} {q:Bool} {x:AV} (hc:ev c c'=some (.val (.bool q))) (hy:ev c (bif q then y else z)=some x) (k:K x):One P { dst:=dd,op:=.pick c' y z,type:=tp,pos:=ps,after:=af,guard:=gg } c b K:=⟨_,step_pick rfl hc (by cases q <;> exact hy),k⟩
theorem s_load {ty:TypeId} {y:Operand} {i off:Nat} {k':TyK} {cells:List AV} {x:AV} (hy:ev c y=some (.ptr i off)) (hb:b[i]?=some cells) [hT:Ty P ty k'] (hx:ldAV k' cells off=some x) (k:K x):One P { dst:=dd,op:=.load ty y,type:=tp,pos:=ps,after:=af,guard:=gg } c b K:=⟨_,step_load_box rfl hy hb hx,k⟩
theorem s_loadr {ty:TypeId} {y:Operand} {k':TyK} {cells:List AV} {x x':AV} (hy:ev c y=some (.ref cells)) [hT:Ty P ty k'] (hx:ldAV k' cells 0=some x) (hx':unt x=x') (k:K x'):One P { dst:=dd,op:=.load ty y,type:=tp,pos:=ps,after:=af,guard:=gg } c b K:=⟨_,step_load_ref rfl hy hx,hx' ▸ k⟩
theorem s_fldb {st:TypeId} {y:Operand} {j i off fo:Nat} {k':TyK} (hy:ev c y=some (.ptr i off)) [hT:Fld P st j fo k'] (k:K (.ptr i (off + fo))):One P { dst:=dd,op:=.fieldAddr st y j,type:=tp,pos:=ps,after:=af,guard:=gg } c b K:=⟨_,step_fieldAddr_box rfl hy,k⟩
theorem s_fldr {st:TypeId} {y:Operand} {j fo:Nat} {k':TyK} {cells:List AV} (hy:ev c y=some (.ref cells)) [hT:Fld P st j fo k'] (k:K (.ref ((cells.drop fo).take (tyN k')))):One P { dst:=dd,op:=.fieldAddr st y j,type:=tp,pos:=ps,after:=af,guard:=gg } c b K:=⟨_,step_fieldAddr_ref rfl hy,k⟩
theorem s_bin {op:BinOp} {ty tz:TypeId} {y z:Operand} {u v w:Value} (hy:ev c y=some (.val u)) (hz:ev c z=some (.val v)) (hc:binV op u v=some w) (k:K (.val w)):One P { dst:=dd,op:=.binOp op ty y z tz,type:=tp,pos:=ps,after:=af,guard:=gg } c b K:=⟨_,step_bin rfl hy hz hc,k⟩
theorem s_cat {ty tz:TypeId} {y z:Operand} {u v:ByteArray} (hy:ev c y=some (.val (.string u))) (hz:ev c z=some (.val (.string v))) (hs:u.size + v.size≤9223372036854775807) (k:K (.val (.string (u ++ v)))):One P { dst:=dd,op:=.binOp .add ty y z tz,type:=tp,pos:=ps,after:=af,guard:=gg } c b K:=⟨_,step_cat rfl hy hz hs,k⟩
theorem s_not {ty:TypeId} {y:Operand} {u:Bool} (hy:ev c y=some (.val (.bool u))) (k:K (.val (.bool (!u)))):One P { dst:=dd,op:=.unOp .not ty y,type:=tp,pos:=ps,after:=af,guard:=gg } c b K:=⟨_,step_not rfl hy,k⟩
theorem s_lenm {α:Type} {cf:α→List AV} {y:Operand} {tt e:TypeId} {sz bytes:Nat} {xs:List α} {tag:Tag} (hy:ev c y=some (.row (xs.map cf) tag)) [hT:SlA P tt e sz bytes] (k:K (.val (.int .i64 xs.length))):One P { dst:=dd,op:=.call { callee:=.builtin .len,args:=#[y],argTypes:=#[tt] },type:=tp,pos:=ps,after:=af,guard:=gg } c b K:=⟨_,step_len_row rfl hy,by rw [List.length_map]; exact k⟩
theorem s_lens {y:Operand} {tt:TypeId} {x:ByteArray} (hy:ev c y=some (.val (.string x))) [hT:StrT P tt] (k:K (.val (.int .i64 x.size))):One P { dst:=dd,op:=.call { callee:=.builtin .len,args:=#[y],argTypes:=#[tt] },type:=tp,pos:=ps,after:=af,guard:=gg } c b K:=⟨_,step_len_str rfl hy,k⟩
theorem s_byte {ty:TypeId} {y z:Operand} {x:ByteArray} {k':IntKind} {i:Int} (hy:ev c y=some (.val (.string x))) (hz:ev c z=some (.val (.int k' i))) [hT:StrT P ty] (h0:0≤i) (h1:i<x.size) (k:K (.val (.int .u8 (byteAt x i)))):One P { dst:=dd,op:=.index ty y z,type:=tp,pos:=ps,after:=af,guard:=gg } c b K:=⟨_,step_byte rfl hy hz h0 h1,k⟩
theorem s_indexm {α:Type} [Zf α] {cf:α→List AV} {ty:TypeId} {y z:Operand} {k':IntKind} {i:Int} {e:TypeId} {sz bytes:Nat} {xs:List α} {tag:Tag} (hy:ev c y=some (.row (xs.map cf) tag)) (hz:ev c z=some (.val (.int k' i))) [hT:SlA P ty e sz bytes] (h0:0≤i) (h1:i<(xs.length:Int)) (hcs:(cf (xs.getD i.toNat Zf.z)).length=sz) (k:K (.ref (cf (xs.getD i.toNat Zf.z)))) :
    One P { dst:=dd,op:=.indexAddr ty y z,type:=tp,pos:=ps,after:=af,guard:=gg } c b K:=⟨_,step_index rfl hy hz h0 (at_map cf h0 h1) hcs,k⟩
theorem s_call {f:FuncId} {fn:Func} {as_:List Operand} {ts:Array TypeId} {args0 args:List AV} {r r':AV} {bs:List (List AV)} (ha:evl c as_=some args0) (hf:Fn P f args [] r bs) (hw:args0.map wk=args) (harg:args.all argB=true) (hres:resB r=true) [hfn:FnIs P f fn] (hr:untag r=r') (k:K r') :
    One P { dst:=dd,op:=.call { callee:=.value (.func f),args:=as_.toArray,argTypes:=ts },type:=tp,pos:=ps,after:=af,guard:=gg } c b K:=⟨_,step_call hf rfl ha hw harg hres,hr ▸ k⟩
theorem s_extract {y:Operand} {i:Nat} {vs:List AV} {x x':AV} (hy:ev c y=some (.tup vs)) (hx:vs[i]?=some x) (hx':untag x=x') (k:K x'):One P { dst:=dd,op:=.extract y i,type:=tp,pos:=ps,after:=af,guard:=gg } c b K:=⟨_,step_extract rfl hy hx,hx' ▸ k⟩
theorem s_conv {src dst:TypeId} {y:Operand} {k1 k2:IntKind} {i:Int} (hy:ev c y=some (.val (.int k1 i))) [hs:IntT P src k1] [hT:IntT P dst k2] (k:K (.val (.int k2 (wrapK k2 i)))):One P { dst:=dd,op:=.convert src dst y,type:=tp,pos:=ps,after:=af,guard:=gg } c b K:=⟨_,step_conv rfl hy,k⟩
theorem s_substr {ty:TypeId} {y:Operand} {lo hi:Option Operand} {l h:Int} {x:ByteArray} (hy:ev c y=some (.val (.string x))) [hT:StrT P ty] (hl:evI c 0 lo=some l) (hh:evI c x.size hi=some h) (h0:0≤l) (h1:l≤h) (h2:h≤x.size) (k:K (.val (.string (x.extract l.toNat h.toNat)))) :
    One P { dst:=dd,op:=.slice ty y lo hi none,type:=tp,pos:=ps,after:=af,guard:=gg } c b K:=⟨_,step_substr rfl hy hl hh h0 h1 h2,k⟩
theorem s_lit {len:Nat} {tt e:TypeId} {sz bytes:Nat} {xs:List (Nat × Operand)} {es:List (List AV)} [hT:SlA P tt e sz bytes] (hp:evs c xs 0=some es) (hsz:es.all (fun e=>Nat.beq e.length sz)=true) (hlen:xs.length=len) (hb:Nat.ble (len*sz) 16777216=true) (k:K (.row es .no)) :
    One P { dst:=dd,op:=.buildSlice tt len xs.toArray,type:=tp,pos:=ps,after:=af,guard:=gg } c b K:=⟨_,step_lit rfl hp (fun e he=>Nat.eq_of_beq_eq_true (List.all_eq_true.1 hsz e he)) hlen hb,k⟩
end
theorem loop_eq (bs:ByteArray):∀ (k i:Nat) (r:List UInt8),bs.size - i=k→ByteArray.toList.loop bs i r=r.reverse ++ bs.data.toList.drop i:=by
  have hl:bs.data.toList.length=bs.size:=rfl
  intro k
  induction k with
  | zero =>
    intro i r h
    unfold ByteArray.toList.loop
    rw [if_neg (by omega),List.drop_of_length_le (by omega),List.append_nil]
  | succ k ih =>
    intro i r h
    unfold ByteArray.toList.loop
    have hi:i<bs.data.toList.length:=by omega
    rw [if_pos (by omega),ih (i + 1) _ (by omega),List.drop_eq_getElem_cons hi]
    have:bs.get! i=bs.data.toList[i]:=by
      show bs.data[i]! = _
      rw [getElem!_pos bs.data i hi]; rfl
    rw [this,List.reverse_cons,List.append_assoc]; rfl
theorem lit_list (l:List UInt8):(ByteArray.mk l.toArray).toList=l:=by
  unfold ByteArray.toList
  rw [loop_eq _ _ 0 [] rfl]
  simp
theorem bne_dec {α:Type} [BEq α] [LawfulBEq α] [DecidableEq α] (a b:α):(a != b)=!decide (a=b):=by by_cases h:a=b <;> simp [h]
theorem beq_dec {α:Type} [BEq α] [LawfulBEq α] [DecidableEq α] (a b:α):(a == b)=decide (a=b):=by by_cases h:a=b <;> simp [h]
theorem wrapK_i32 (x:Int):wrapK .i32 x=wrap32 x:=by
  show IntKind.i32.wrap x=_
  unfold wrap32
  exact IntKind.wrap_i32 x
theorem wrapK_i64 (x:Int):wrapK .i64 x=wrap64 x:=rfl
def bo (fn:Func):Code:=fn.body.getD .skip
def cl : Code → Code
  | .seq x _=>x
  | .block _ x=>x
  | .loop x=>x
  | .cond _ x _=>x
  | c=>c
def cr : Code → Code
  | .seq _ y=>y
  | .cond _ _ y=>y
  | c=>c
def ro : Code → List Oper
  | .region _ ops _=>ops.toList
  | _=>[]
section
variable {P:Program} {Q:Exit→St→Prop} {n:Nat} {t:List (Nat × AV)} {b:List (List AV)} {h h0:Rows_} {ops:Array Oper} {rest l l0:List Oper} {d:Nat} {o:Oper} {k:Nat} {r:Option Rows_} {KD:List (Nat × AV)→Option Rows_→Prop} {c x y:Code} {s:St}
theorem w_fn {f : FuncId} {fn : Func} {args : List AV} {bs bs' : List (List AV)} {r : AV} {n : Nat} (hf : P.funcs[f]? = some fn) (hb : fn.body.isSome = true) (hn : fn.ntmps = n) (hargs : args.all (fun x => match x with | .row _ (.own _) => false | _ => true) = true) (hna : Nat.ble args.length n = true) (hbb : Nat.ble bs.length bs'.length = true)
    (h:AWP P (bo fn) (FinQ P fn r bs') ⟨n,tmps0 args 0,bs,[]⟩):Fn P f args bs r bs':=fn_of hf (by unfold bo; cases hq:fn.body with | none=>rw [hq] at hb; cases hb | some c=>rfl) hn hargs hna hbb h
theorem w_seq (hc:c=.seq x y) (k:AWP P (cl c) (thenQ (AWP P (cr c) Q) Q) s):AWP P c Q s:=by subst hc; exact awp_seq k
theorem w_block {id:Nat} (hc:c=.block id x) (k:AWP P (cl c) (blockQ id Q) s):AWP P c Q s:=by subst hc; exact awp_block k
theorem w_skip (hc:c=.skip) (k:Q .normal s):AWP P c Q s:=by subst hc; exact awp_skip k
theorem w_ret (hc:c=.ret) (k:Q .ret s):AWP P c Q s:=by subst hc; exact awp_ret k
theorem w_exit {id:Nat} (hc:c=.exit id) (k:Q (.exit id) s):AWP P c Q s:=by subst hc; exact awp_exit k
theorem w_true {o:Operand} {q:Bool} (hc:c=.cond o x y) (hv:ev t o=some (.val (.bool q))) (hq:q=true) (k:AWP P (cl c) Q ⟨n,t,b,h⟩):AWP P c Q ⟨n,t,b,h⟩:=by subst hc; exact a_trueq hv hq k
theorem w_false {o:Operand} {q:Bool} (hc:c=.cond o x y) (hv:ev t o=some (.val (.bool q))) (hq:q=false) (k:AWP P (cr c) Q ⟨n,t,b,h⟩):AWP P c Q ⟨n,t,b,h⟩:=by subst hc; exact a_falseq hv hq k
theorem w_region {id:Nat} {ops:Array Oper} (hc:c=.region id ops false) (k:AOps P (ro c).toArray (ro c) Q ⟨n,t,b,h⟩):AWP P c Q ⟨n,t,b,h⟩:=by
  subst hc
  obtain ⟨l⟩:=ops
  exact a_region k
theorem w_draw {id : Nat} {ops : Array Oper} (m : Nat) (pd : List (List AV)) [hm : Mixed P] (hc : c = .region id ops true) (hk : drawChk (ro c) m = true) (hml : (Nat.beq m (ro c).length || Nat.beq (m + 1) (ro c).length && (match (ro c)[m]? with | some o => o.dst.isNone | none => true)) = true)
    (hd:Draw P (ro c) n (b ++ pd) h ((ro c).take m) t b.length none (fun T r=>AOps P (ro c).toArray ((ro c).drop m) Q ⟨n,T,b ++ pd,r.getD h⟩)):AWP P c Q ⟨n,t,b,h⟩:=by
  subst hc
  obtain ⟨l⟩:=ops
  exact a_draw m pd hk hml hd
theorem q_none (hl:l=o :: rest) (hg:o.guard=none) (hd:o.dst=some d) (hn:Nat.blt d n=true) (k:One P o t b fun x=>AOps P ops l.tail Q ⟨n,(d,x) :: t,b,h⟩):AOps P ops l Q ⟨n,t,b,h⟩:=by subst hl; exact p_none hg hd hn k
theorem q_run {j dj:Nat} {want q:Bool} (hl:l=o :: rest) (hg:o.guard=some (j,want)) (hj:(ops[j]?).bind (·.dst)=some dj) (hb:look t dj=some (.val (.bool q))) (hq:q=want) (hd:o.dst=some d) (hn:Nat.blt d n=true) (k:One P o t b fun x=>AOps P ops l.tail Q ⟨n,(d,x) :: t,b,h⟩):AOps P ops l Q ⟨n,t,b,h⟩:=by subst hl; exact p_run hg hj hb hq hd hn k
theorem q_skip {j dj:Nat} {want q:Bool} (hl:l=o :: rest) (hg:o.guard=some (j,want)) (hj:(ops[j]?).bind (·.dst)=some dj) (hb:look t dj=some (.val (.bool q))) (hq:q=!want) (hd:o.dst=some d) (hn:Nat.blt d n=true) (k:AOps P ops l.tail Q ⟨n,(d,.tup []) :: t,b,h⟩):AOps P ops l Q ⟨n,t,b,h⟩:=by subst hl; exact a_skipq hg hj hb hq hd hn k
theorem q_dead {j dj:Nat} {want:Bool} (hl:l=o :: rest) (hg:o.guard=some (j,want)) (hj:(ops[j]?).bind (·.dst)=some dj) (hb:look t dj=some (.tup [])) (hd:o.dst=some d) (hn:Nat.blt d n=true) (k:AOps P ops l.tail Q ⟨n,(d,.tup []) :: t,b,h⟩):AOps P ops l Q ⟨n,t,b,h⟩:=by subst hl; exact a_dead hg hj hb hd hn k
theorem q_nil (hl:l=[]) (k:Q .normal ⟨n,t,b,h⟩):AOps P ops l Q ⟨n,t,b,h⟩:=by subst hl; exact a_nil k
theorem q_box {ty:TypeId} {y:Operand} {x:AV} {cells:List AV} (hl:l=o :: rest) (ho:o.op=.box ty y) (hy:ev t y=some x) (hx:cellsAV x=some cells) (hg:o.guard=none) (hd:o.dst=some d) (hn:Nat.blt d n=true) (k:AOps P ops l.tail Q ⟨n,(d,.ptr b.length 0) :: t,b ++ [cells],h⟩):AOps P ops l Q ⟨n,t,b,h⟩:=by
  subst hl; exact aops_box (s:=⟨n,t,b,h⟩) ho hy hx hg hd hn k
theorem q_alloc {ty:TypeId} {cells:List AV} (hl:l=o :: rest) (ho:o.op=.alloc ty) [hz:Zr P ty cells] (hg:o.guard=none) (hd:o.dst=some d) (hn:Nat.blt d n=true) (k:AOps P ops l.tail Q ⟨n,(d,.ptr b.length 0) :: t,b ++ [cells],h⟩):AOps P ops l Q ⟨n,t,b,h⟩:=by
  subst hl; exact aops_alloc (s:=⟨n,t,b,h⟩) ho hg hd hn k
theorem q_store {ty:TypeId} {y z:Operand} {i off:Nat} {k':TyK} {cells cs:List AV} {x:AV} (hl:l=o :: rest) (ho:o.op=.store ty y z) (hy:ev t y=some (.ptr i off)) (hb:b[i]?=some cells) (hz:ev t z=some x) (hx:cellsAV x=some cs) [hT:Ty P ty k'] (hcl:cs.length=tyN k') (hle:Nat.ble (off + cs.length) cells.length=true) (hg:o.guard=none) (hd:o.dst=none) (k:AOps P ops l.tail Q ⟨n,t,b.set i (spl cells off cs),h⟩) :
    AOps P ops l Q ⟨n,t,b,h⟩:=by subst hl; exact aops_store (s:=⟨n,t,b,h⟩) ho hy hb hz hx hcl hle hg hd k
theorem e_none (hl:l=o :: rest) (hg:o.guard=none) (hd:o.dst=some d) (hn:Nat.blt d n=true) (hk:One P o (ctx l0 o t) b fun x=>Draw P l0 n b h0 l.tail ((d,x) :: t) k r KD):Draw P l0 n b h0 l t k r KD:=by subst hl; exact d_none hg hd hn hk
theorem e_run {j dj:Nat} {want q:Bool} (hl:l=o :: rest) (hg:o.guard=some (j,want)) (hj:(l0[j]?).bind (·.dst)=some dj) (hb:look (ctx l0 o t) dj=some (.val (.bool q))) (hq:q=want) (hd:o.dst=some d) (hn:Nat.blt d n=true) (hk:One P o (ctx l0 o t) b fun x=>Draw P l0 n b h0 l.tail ((d,x) :: t) k r KD):Draw P l0 n b h0 l t k r KD:=by subst hl; exact d_runq hg hj hb hq hd hn hk
theorem e_skip {j dj:Nat} {want q:Bool} (hl:l=o :: rest) (hg:o.guard=some (j,want)) (hj:(l0[j]?).bind (·.dst)=some dj) (hb:look (ctx l0 o t) dj=some (.val (.bool q))) (hq:q=!want) (hd:o.dst=some d) (hn:Nat.blt d n=true) (hk:Draw P l0 n b h0 l.tail ((d,.tup []) :: t) k r KD):Draw P l0 n b h0 l t k r KD:=by subst hl; exact d_skipq hg hj hb hq hd hn hk
theorem e_dead {j dj:Nat} {want:Bool} (hl:l=o :: rest) (hg:o.guard=some (j,want)) (hj:(l0[j]?).bind (·.dst)=some dj) (hb:look (ctx l0 o t) dj=some (.tup [])) (hd:o.dst=some d) (hn:Nat.blt d n=true) (hk:Draw P l0 n b h0 l.tail ((d,.tup []) :: t) k r KD):Draw P l0 n b h0 l t k r KD:=by subst hl; exact d_dead hg hj hb hd hn hk
theorem e_end (hl:l=[]) (hk:KD t r):Draw P l0 n b h0 l t k r KD:=by subst hl; exact d_end hk
theorem e_alloc {ty : TypeId} {cells : List AV} (hl : l = o :: rest) (ho : o.op = .alloc ty) [hz : Zr P ty cells] (hg : o.guard = none) (hd : o.dst = some d) (hb : b[k]? = some cells) (hn : Nat.blt d n = true)
    (hk:Draw P l0 n b h0 l.tail ((d,.ptr k 0) :: t) (k + 1) r KD):Draw P l0 n b h0 l t k r KD:=by
  subst hl
  obtain ⟨dst,op,type,pos,after,guard⟩:=o
  simp only at ho hg hd
  subst ho; subst hg; subst hd
  exact d_alloc hb hn hk
theorem q_id (k:AOps P ops l Q s):AOps P ops l Q s:=k
theorem e_id (k':Draw P l0 n b h0 l t k r KD):Draw P l0 n b h0 l t k r KD:=k'
theorem w_id (k:AWP P c Q s):AWP P c Q s:=k
theorem one_id {c:List (Nat × AV)} {K:AV→Prop} (k:One P o c b K):One P o c b K:=k
theorem t_id {K:St→Prop} {e:Exit} (k:thenQ K Q e s):thenQ K Q e s:=k
theorem b_id {id:Nat} {e:Exit} (k:blockQ id Q e s):blockQ id Q e s:=k
end
def inB (m q : Nat) : AV → Bool
  | .ptr i _=>Nat.blt i m
  | .row _ (.own r)=>Nat.blt r q
  | .tup vs=>vs.isEmpty
  | _=>true
section
variable {P:Program} {Q:Exit→St→Prop} {C:Ctx} {E:Env} {a:Act} {w:World} {s s':St}
theorem Inv.keep (hI : Inv C E s a w) {m q : Nat} (hm : C.gs0.length ≤ m) (hms : m ≤ s.b.length) (hq : q ≤ s.h.length) {t : List (Nat × AV)} (ht : ∀ d x, look t d = some x → look s.t d = some x) (ht2 : ∀ d x, look t d = some x → inB m q x = true)
    (hb2:∀ cells ∈ s.b.take m,∀ x ∈ cells,inB m q x=true):Inv C { E with gs:=E.gs.take m,rs:=E.rs.take q } ⟨s.n,t,s.b.take m,s.h.take q⟩ a w:=by
  have hgs:∀ (i g:Nat),(E.gs.take m)[i]?=some (some g)→i<m∧E.gs[i]?=some (some g):=fun i g h=>by
    rw [List.getElem?_take] at h
    split at h
    · exact ⟨by assumption,h⟩
    · cases h
  have hrs:∀ (r:Nat) (v:Value),(E.rs.take q)[r]?=some v→r<q∧E.rs[r]?=some v:=fun r v h=>by
    rw [List.getElem?_take] at h
    split at h
    · exact ⟨by assumption,h⟩
    · cases h
  have hrep:∀ x u,inB m q x=true→RepT E s.h w x u→RepT { E with gs:=E.gs.take m,rs:=E.rs.take q } (s.h.take q) w x u:=fun x u hx h=>by
    refine ⟨?_,?_⟩
    · have h1 := h.1
      cases h1 with
      | ptr b off g hg =>
        simp only [inB,Nat.blt_eq] at hx
        exact .ptr b off g (by show (E.gs.take m)[b]?=_; rw [List.getElem?_take,if_pos hx]; exact hg)
      | tup vs us hl hr =>
        simp only [inB,List.isEmpty_iff] at hx
        subst hx
        exact .tup [] us hl (by intro j x u hx; simp at hx)
      | val _ hv=>exact .val _ hv
      | nil=>exact .nil
      | empty A c tag ht=>exact .empty A c tag ht
      | row g o c sz elems us tag ht h0 hsz hl hn hm ha hf hr=>exact (Rep.row g o c sz elems us tag ht h0 hsz hl hn hm ha hf hr).arg rfl
      | agg cells us hl hf hr=>exact (Rep.agg cells us hl hf hr).arg rfl
      | ref g o cells us hl ha hf hr=>exact (Rep.ref g o cells us hl ha hf hr).arg rfl
      | any u h=>exact .any u h
    · intro c r e
      subst e
      simp only [inB,Nat.blt_eq] at hx
      obtain ⟨m',e',s',h1,h2,h3⟩:=h.2 c r rfl
      exact ⟨m',e',s',by rw [List.getElem?_take,if_pos hx]; exact h1,h2,fun h4=>by show (E.rs.take q)[r]?=_; rw [List.getElem?_take,if_pos hx]; exact h3 h4⟩
  have hbn:=hI.boxn
  have hrn:=hI.rown
  exact {
    os:=hI.os,tape:=hI.tape,output:=hI.output,size:=hI.size,block:=hI.block,grow:=hI.grow,old:=hI.old,bound:=hI.bound
    pre:=fun i g h=>by
      have hi:i<C.gs0.length:=(List.getElem?_eq_some_iff.1 h).1
      show (E.gs.take m)[i]?=_
      rw [List.getElem?_take,if_pos (by omega)]
      exact hI.pre i g h
    boxn:=by simp only [List.length_take]; rw [hbn]
    boxes:=fun i g cs hg hc=>by
      obtain ⟨hi,hg⟩:=hgs i g hg
      have hmem:cs ∈ s.b.take m:=List.mem_of_getElem? hc
      have hc:(s.b.take m)[i]?=some cs:=hc
      rw [List.getElem?_take,if_pos hi] at hc
      obtain ⟨us,ty,h1,h2,h3,h4⟩:=hI.boxes i g cs hg hc
      exact ⟨us,ty,h1,h2,h3,fun j x u hx hu=>hrep x u (hb2 cs hmem x (List.mem_of_getElem? hx)) (h4 j x u hx hu)⟩
    fresh:=fun i g hg=>hI.fresh i g (hgs i g hg).2
    inj:=fun i j g h1 h2=>hI.inj i j g (hgs i g h1).2 (hgs j g h2).2
    rown:=by simp only [List.length_take]; rw [hrn]
    rows:=fun r v n e size hv hn=>by
      obtain ⟨hr,hv⟩:=hrs r v hv
      have hn:(s.h.take q)[r]?=some (n,e,size):=hn
      rw [List.getElem?_take,if_pos hr] at hn
      exact hI.rows r v n e size hv hn
    rinj:=fun r r' v v' g h1 h2=>hI.rinj r r' v v' g (hrs r v h1).2 (hrs r' v' h2).2
    rbox:=fun r i v g hv hg h=>hI.rbox r i v g (hrs r v hv).2 hg (hgs i g h).2
    defers:=hI.defers
    tsz:=hI.tsz
    temps:=fun d x hd=>by
      obtain ⟨u,h1,h2⟩:=hI.temps d x (ht d x hd)
      exact ⟨u,h1,hrep x u (ht2 d x hd) h2⟩ }
structure Cov2 (s s' : St) : Prop where
  n:s.n=s'.n
  b:s.b.take s'.b.length=s'.b
  bl:Nat.ble s'.b.length s.b.length=true
  h:s.h.take s'.h.length=s'.h
  hl:Nat.ble s'.h.length s.h.length=true
  t:∀ d x,look s'.t d=some x→look s.t d=some x
  tin:s'.t.all (fun p=>inB s'.b.length s'.h.length p.2)=true
  bin:s'.b.all (fun cs=>cs.all (inB s'.b.length s'.h.length))=true
theorem look_mem : ∀ {t : List (Nat × AV)} {d : Nat} {x : AV}, look t d = some x → (d, x) ∈ t
  | [],d,x,h=>by cases h
  | (e,v) :: r,d,x,h=>by
    rw [look_cons] at h
    by_cases q:e=d
    · rw [if_pos q] at h; injection h with h; subst q; subst h; exact List.mem_cons_self ..
    · rw [if_neg q] at h; exact List.mem_cons_of_mem _ (look_mem h)
end
section
variable {P:Program} {C:Ctx} {E:Env} {a:Act} {w:World} {s:St}
theorem RepTs.spl {h:List (Nat × Nat × Nat)} {cells cs:List AV} {us vs:List Value} {off:Nat} (hr:RepTs E h w cells us) (hc:RepTs E h w cs vs) (hle:off + cs.length≤cells.length):RepTs E h w (spl cells off cs) (V.spl us off vs):=by
  refine ⟨?_,?_,?_⟩
  · rw [spl_len _ _ _ (by rw [hc.1,hr.1]; exact hle),spl_len _ _ _ hle,hr.1]
  · intro x hx
    simp only [V.spl,List.mem_append] at hx
    rcases hx with (hx | hx) | hx
    · exact hr.2.1 x (List.mem_of_mem_take hx)
    · exact hc.2.1 x hx
    · exact hr.2.1 x (List.mem_of_mem_drop hx)
  · intro q x u hx hu
    rw [spl_at _ _ _ hle] at hx
    rw [spl_at _ _ _ (by rw [hc.1,hr.1]; exact hle),hc.1] at hu
    split at hx
    · rename_i hq
      rw [if_pos hq] at hu
      exact hc.2.2 _ x u hx hu
    · rename_i hq
      rw [if_neg hq] at hu
      exact hr.2.2 _ x u hx hu
def bldAV (pl : List (Nat × Nat)) (t : List (Nat × AV)) : List AV → List (Nat × Operand) → Option (List AV)
  | cells,[]=>some cells
  | cells,(i,y) :: r=>match pl[i]?,(ev t y).bind cellsAV with
    | some (off,sz),some cs=>bif Nat.beq cs.length sz && Nat.ble (off + sz) cells.length then bldAV pl t (V.spl cells off cs) r else none
    | _,_=>none
theorem fill_bld (hI : Inv C E s a w) {pl : List (Nat × Nat)} {t : List (Nat × AV)} (ht : Sub t s.t) : ∀ {ps : List (Nat × Operand)} {cells out : List AV} {arr : Array Value}, RepTs E s.h w cells arr.toList → bldAV pl t cells ps = some out →
    ∃ arr',Instr.fill (pl[·]?) arr (ps.map fun p=>(p.1,a.eval p.2))=some arr'∧RepTs E s.h w out arr'.toList
  | [],cells,out,arr,hr,hb=>by
    simp only [bldAV,Option.some.injEq] at hb
    subst hb
    exact ⟨arr,rfl,hr⟩
  | (i,y) :: r,cells,out,arr,hr,hb=>by
    simp only [bldAV] at hb
    split at hb
    · rename_i off sz cs h1 h2
      cases hcond:(Nat.beq cs.length sz && Nat.ble (off + sz) cells.length) with
      | false=>rw [hcond] at hb; cases hb
      | true =>
        rw [hcond] at hb
        simp only [Bool.and_eq_true] at hcond
        have hsz:=Nat.eq_of_beq_eq_true hcond.1
        have hle:=Nat.le_of_ble_eq_true hcond.2
        obtain ⟨x,hx,hxc⟩:=Option.bind_eq_some_iff.1 h2
        have hc:=cellsAV_rep (hI.ev (ev_sub ht hx)) hxc
        have hvl:(a.eval y).cells.size=sz:=by rw [← hsz,← hc.1]; simp
        have hal:arr.size=cells.length:=by rw [← hr.1]; simp
        have hset:=foldl_set off (a.eval y).cells.toList 0 arr (by simp [hvl]; omega)
        rw [Nat.add_zero] at hset
        have hr2:=hr.spl hc (off:=off) (by omega)
        obtain ⟨arr',h3,h4⟩:=fill_bld hI ht (ps:=r) (arr:=(a.eval y).cells.zipIdx.foldl (fun cs (p:Value × Nat)=>cs.setIfInBounds (off + p.2) p.1) arr) (by
          rw [← Array.foldl_toList,Array.toList_zipIdx,hset]
          exact hr2) hb
        refine ⟨arr',?_,h4⟩
        rw [List.map_cons,Instr.fill]
        simp only [h1]
        rw [if_neg (by rw [hvl,hal]; simp; omega)]
        exact h3
    · cases hb
def sizesK (P : Program) : List Field → Option (List (Nat × Nat))
  | []=>some []
  | f :: r=>match P.info? f.type,sizesK P r with | some i,some ps=>some ((f.offset,i.size) :: ps) | _,_=>none
def bldK (P:Program) (t:TypeId):Option (List (Nat × Nat) × List AV) :=
  match P.info? t,P.underlying t with
  | some i,some (.struct fields)=>match i.zero,sizesK P fields.toList with
    | some z,some ps=>(constsAV z.cells.toList).map fun zs=>(ps,zs)
    | _,_=>none
  | _,_=>none
class Bld (P : Program) (t : TypeId) (pl : outParam (List (Nat × Nat))) (zs : outParam (List AV)) : Prop where
  out:bldK P t=some (pl,zs)
theorem sizes_run {w : World} : ∀ {fs : List Field} {ps : List (Nat × Nat)}, sizesK P fs = some ps → (fs.mapM (m := Sem) fun f => Prod.mk f.offset <$> sizeOf f.type).run P w = .ok ps w
  | [],ps,h=>by simp only [sizesK,Option.some.injEq] at h; subst h; rfl
  | f :: r,ps,h=>by
    simp only [sizesK] at h
    split at h
    · rename_i i qs hi hq
      injection h with h
      subst h
      have ih:=sizes_run (w:=w) hq
      rw [List.mapM_cons]
      have h1:(Prod.mk f.offset <$> sizeOf f.type:Sem (Nat × Nat)).run P w=.ok (f.offset,i.size) w:=by
        rw [← bind_pure_comp]
        simp only [Sem.run_bind,sizeOf,typeInfo]
        simp [hi,Sem.run_bind]
      rw [Sem.run_bind,h1,Result.andThen_ok,Sem.run_bind,ih]
      rfl
    · cases h
theorem step_build {o:Oper} {t:List (Nat × AV)} {b:List (List AV)} {ty:TypeId} {ps:List (Nat × Operand)} {pl:List (Nat × Nat)} {zs out:List AV} (ho:o.op=.build ty ps.toArray) [hT:Bld P ty pl zs] (hb:bldAV pl t zs ps=some out):Step P o t b (.agg out):=step_value fun C E s a w hI hbe ht=>by
  have hk:=hT.out
  unfold bldK at hk
  split at hk
  · rename_i i fields hi hu
    split at hk
    · rename_i z qs hz hq
      rw [Option.map_eq_some_iff] at hk
      obtain ⟨zs',hzs,he⟩:=hk
      injection he with he1 he2
      subst he1; subst he2
      have h1:=reps_const (F:=E.F) (gs:=E.gs) (w:=w) hzs
      have hr0:RepTs E s.h w zs' z.cells.toList:=⟨h1.1,constsAV_flat hzs,fun j x u hx hu=>⟨h1.2 j x u hx hu,fun c r e=>absurd e (constsAV_tag (E:=E) (w:=w) hzs _ (List.mem_of_getElem? hx) c r)⟩⟩
      obtain ⟨arr',h3,h4⟩:=fill_bld hI ht hr0 hb
      refine ⟨.agg arr',?_,?_⟩
      · have hparts : (ps.toArray.map fun (p : Nat × Operand) => (p.1, a.eval p.2)).toList = ps.map fun p => (p.1, a.eval p.2) := by simp
        unfold execOp
        simp only [ho]
        rw [Sem.run_bind]
        have hb2:(Instr.build ty (ps.toArray.map fun (p:Nat × Operand)=>(p.1,a.eval p.2))).run P w=.ok (.agg arr') w:=by
          have hsr:=sizes_run (w:=w) hq
          have hm:(fields.mapM (m:=Sem) fun f=>Prod.mk f.offset <$> sizeOf f.type).run P w=.ok qs.toArray w:=by
            rw [Array.mapM_eq_mapM_toList,← bind_pure_comp,Sem.run_bind,hsr]
            rfl
          unfold Instr.build
          simp [Sem.run_bind,zeroValue,typeInfo,hi,hz,run_underlying hu,hm,hparts,h3]
        show Result.andThen ((Instr.build ty (ps.toArray.map fun (p:Nat × Operand)=>(p.1,a.eval p.2))).run P w) _=_
        rw [hb2]
        rfl
      · have := Rep.agg (F := E.F) (gs := E.gs) (w := w) out arr'.toList h4.1 h4.2.1 (fun j x u hx hu => (h4.2.2 j x u hx hu).1)
        exact ⟨by simpa using this,by intro c r e; cases e⟩
    · cases hk
  · cases hk
theorem s_build {c:List (Nat × AV)} {b:List (List AV)} {K:AV→Prop} {dd:Option Nat} {tp:TypeId} {pos:String} {af:Array Edge} {gg:Option (Nat × Bool)} {ty:TypeId} {ps:List (Nat × Operand)} {pl:List (Nat × Nat)} {zs out:List AV} [hT:Bld P ty pl zs] (hb:bldAV pl c zs ps=some out) (k:K (.agg out)) :
    One P { dst:=dd,op:=.build ty ps.toArray,type:=tp,pos:=pos,after:=af,guard:=gg } c b K:=⟨_,step_build rfl hb,k⟩
theorem s_neg {c:List (Nat × AV)} {b:List (List AV)} {K:AV→Prop} {dd:Option Nat} {tp:TypeId} {pos:String} {af:Array Edge} {gg:Option (Nat × Bool)} {ty:TypeId} {y:Operand} {k':IntKind} {u:Int} (hy:ev c y=some (.val (.int k' u))) (k:K (.val (.int k' (wrapK k' (-u))))):One P { dst:=dd,op:=.unOp .neg ty y,type:=tp,pos:=pos,after:=af,guard:=gg } c b K:=⟨_,step_neg rfl hy,by rw [Int.zero_sub]; exact k⟩
theorem step_rune {o:Oper} {t:List (Nat × AV)} {b:List (List AV)} {src dst:TypeId} {y:Operand} {k':IntKind} {i:Int} (ho:o.op=.convert src dst y) (hy:ev t y=some (.val (.int k' i))) [hs:IntT P src k'] [hT:StrT P dst]:Step P o t b (.val (.string (Utf8.encode i))):=step_value fun C E s a w hI hb ht=>by
  have hu:=(rep_val (hI.ev (ev_sub ht hy)).1).1
  have hst:P.underlying dst=some .string:=by
    have h1:=hT.out
    cases hq:P.underlying dst with
    | none=>rw [hq] at h1; cases h1
    | some d=>rw [hq] at h1; cases d <;> first | rfl | cases h1
  refine ⟨.string (Utf8.encode i),?_,.val _ rfl,by intro _ _ e; cases e⟩
  generalize a.eval=ρ at hu ⊢
  simp [execOp,ho,hu,convert,run_underlying hs.out,run_underlying hst,Conv.intToString]
theorem s_rune {c:List (Nat × AV)} {b:List (List AV)} {K:AV→Prop} {dd:Option Nat} {tp:TypeId} {pos:String} {af:Array Edge} {gg:Option (Nat × Bool)} {src dst:TypeId} {y:Operand} {k':IntKind} {i:Int} (hy:ev c y=some (.val (.int k' i))) [hs:IntT P src k'] [hT:StrT P dst] (k:K (.val (.string (Utf8.encode i)))):One P { dst:=dd,op:=.convert src dst y,type:=tp,pos:=pos,after:=af,guard:=gg } c b K:=⟨_,step_rune rfl hy,k⟩
end
end Go.Proofs.YtdlhidjphaaklaaGreat.V
end
section
namespace Go.Proofs.YtdlhidjphaaklaaGreat.V
open Go Go.RowKit
open Go.Proofs.YtdlhidjphaaklaaGreatW.PrintWords
structure KA {α : Type} (d : Kd α) (c : α → List AV) : Prop where
  fwd:∀ {w:World} {x:α} {cs:List Value} (gs:List (Option Nat)),d.K w x cs→Reps (fun b _=>b<w.heap.size) gs w (c x) cs
  of:∀ {F:Nat→Nat→Prop} {gs:List (Option Nat)} {w:World} {x:α} {cs:List Value},Reps F gs w (c x) cs→d.K w x cs
  made:∀ {w:World} {base:Nat} {ok:Nat→Prop} {x:α} {cs:List Value} (gs:List (Option Nat)),d.M w base ok x cs→Reps (fun b _=>base≤b∧b<w.heap.size) gs w (c x) cs
  len:∀ x,(c x).length=d.sz
  fl:∀ x,∀ y ∈ c x,flat y=true
theorem reps_split {F : Nat → Nat → Prop} {gs : List (Option Nat)} {w : World} {sz : Nat} {elems : List (List AV)} {us : List Value} (hsz : ∀ e ∈ elems, e.length = sz) (hl : us.length = elems.flatten.length) (hr : ∀ (j : Nat) (x : AV) (u : Value), elems.flatten[j]? = some x → us[j]? = some u → Rep F gs w x u)
    {j:Nat} {e:List AV} (he:elems[j]?=some e):Reps F gs w e ((us.drop (j*sz)).take sz):=by
  have hj:=(List.getElem?_eq_some_iff.1 he).1
  have hes:=hsz e (List.mem_of_getElem? he)
  have hfl:=flat_len hsz
  have hb:j*sz + sz≤elems.length*sz:=by rw [← Nat.succ_mul]; exact Nat.mul_le_mul_right _ hj
  refine ⟨by simp [hl,hfl,hes]; omega,fun i x u hx hu=>?_⟩
  rw [List.getElem?_take] at hu
  split at hu
  · rename_i hi
    rw [List.getElem?_drop] at hu
    exact hr _ x u (by rw [flat_get hsz j e he i hi]; exact hx) hu
  · cases hu
theorem reps_join {F : Nat → Nat → Prop} {gs : List (Option Nat)} {w : World} {sz : Nat} {elems : List (List AV)} {us : List Value} (hp : 0 < sz) (hsz : ∀ e ∈ elems, e.length = sz) (h : ∀ (j : Nat) (e : List AV), elems[j]? = some e → Reps F gs w e ((us.drop (j * sz)).take sz))
    (j:Nat) (x:AV) (u:Value) (hx:elems.flatten[j]?=some x) (hu:us[j]?=some u):Rep F gs w x u:=by
  have hfl:=flat_len hsz
  have hjl:=(List.getElem?_eq_some_iff.1 hx).1
  have hd:=Nat.div_add_mod j sz
  have hm:=Nat.mod_lt j hp
  have hq:j / sz<elems.length:=by rw [Nat.div_lt_iff_lt_mul hp]; omega
  have he:elems[j / sz]?=some elems[j / sz]:=List.getElem?_eq_getElem hq
  have hj:j / sz*sz + j % sz=j:=by rw [Nat.mul_comm]; exact hd
  have h1:=flat_get hsz (j / sz) _ he (j % sz) hm
  rw [hj,hx] at h1
  refine (h _ _ he).2 (j % sz) x u h1.symm ?_
  rw [List.getElem?_take,if_pos hm,List.getElem?_drop,hj]
  exact hu
section
variable {α:Type} {d:Kd α} {c:α→List AV}
theorem row_to {w:World} {A:Option Addr} {n m:Nat} {xs:List α} (gs:List (Option Nat)) (hp:0<d.sz) (hl:∀ x,(c x).length=d.sz) (hf:∀ x,∀ y ∈ c x,flat y=true) (hk:∀ x ∈ xs,∀ cs,d.K w x cs→Reps (fun b _=>b<w.heap.size) gs w (c x) cs) (h:d.C w A n xs) (hn:n≤m):Rep (fun b _=>b<w.heap.size) gs w (.row (xs.map c) .no) (.slice A n m):=by
  obtain ⟨rfl,hmax,hh⟩:=h
  by_cases h0:xs=[]
  · subst h0; exact .empty A m .no (by simp)
  have hpos:0<xs.length:=List.length_pos_iff.2 h0
  obtain ⟨ad,rfl,hc⟩:=hh hpos
  have hin:ReadsRow (d.K w) d.sz w (some ad) xs.length xs:=⟨rfl,hmax,fun _=>⟨ad,rfl,hc⟩⟩
  obtain ⟨inner,hr,hcell⟩:=ReadsRow.inner_ hin
  have hsz:∀ e ∈ xs.map c,e.length=d.sz:=len_map hl
  have hil:inner.length=(xs.map c).flatten.length:=by rw [flat_len hsz,List.length_map]; exact hr.1
  have hip:0<inner.length:=by rw [hr.1]; exact Nat.mul_pos hpos hp
  obtain ⟨g,o,sp⟩:=ad
  have hs:sp=none:=by
    have:=hcell 0 _ (List.getElem?_eq_getElem hip)
    simp only [Addr.add,if_true,World.cell?] at this
    split at this
    · split at this
      · cases this
      · rename_i hs; simpa using hs
    · cases this
  subst hs
  have hgl:∀ (j:Nat) (u:Value),inner[j]?=some u→w.cell? ⟨g,o + j,none⟩=some u:=fun j u hj=>by have:=hcell j u hj; rwa [Addr.add_mid] at this
  have hg:g<w.heap.size:=by
    have:=hgl 0 _ (List.getElem?_eq_getElem hip)
    rw [World.cell?] at this
    split at this
    · rename_i hh; exact (Array.getElem?_eq_some_iff.1 hh).1
    · cases this
  have key:=Rep.row (F:=fun b _=>b<w.heap.size) (gs:=gs) (w:=w) g o m d.sz (xs.map c) inner .no (by simp) (by simpa using h0) hsz hil (by rw [List.length_map]; exact hn) (by rw [List.length_map]; exact hmax) (fun j u hj=>⟨hgl j u hj,hg⟩) (fun x hx=>?_) ?_
  · rw [List.length_map] at key; exact key
  · obtain ⟨e, he, hxe⟩ := List.mem_flatten.1 hx
    obtain ⟨y,_,rfl⟩:=List.mem_map.1 he
    exact hf y x hxe
  · refine reps_join hp hsz (fun j e he => ?_)
    rw [List.getElem?_map,Option.map_eq_some_iff] at he
    obtain ⟨x,hx,rfl⟩:=he
    exact hk x (List.mem_of_getElem? hx) _ (hr.2 j x hx)
theorem row_of {F:Nat→Nat→Prop} {gs:List (Option Nat)} {w:World} {xs:List α} {tag:Tag} {u:Value} (hl:∀ x,(c x).length=d.sz) (hk:∀ x ∈ xs,∀ cs,Reps F gs w (c x) cs→d.K w x cs) (h:Rep F gs w (.row (xs.map c) tag) u):∃ A m,u=.slice A xs.length m∧xs.length≤m∧d.C w A xs.length xs:=by
  generalize he:xs.map c=elems at h
  cases h with
  | nil =>
    have:xs=[]:=by simpa using he
    subst this
    exact ⟨none,0,rfl,Nat.le_refl _,rfl,by simp,by simp⟩
  | empty A m tag ht =>
    have:xs=[]:=by simpa using he
    subst this
    exact ⟨A,m,rfl,Nat.zero_le _,rfl,by simp,by simp⟩
  | row g o m sz elems us tag ht h0 hsz hln hm hmx ha hf hr =>
    subst he
    rw [List.length_map] at hm hmx
    obtain ⟨x0,hx0⟩:=List.exists_mem_of_ne_nil xs (by simpa using h0)
    obtain rfl:d.sz=sz:=by rw [← hl x0]; exact hsz _ (List.mem_map_of_mem hx0)
    refine ⟨some ⟨g,o,none⟩,m,by simp,hm,rfl,hmx,fun _=>⟨_,rfl,fun j x hj=>?_⟩⟩
    have hj':(xs.map c)[j]?=some (c x):=by rw [List.getElem?_map,hj]; rfl
    have hs:=reps_split hsz hln hr hj'
    refine ⟨(us.drop (j*d.sz)).take d.sz,by rw [hs.1,hl],hk x (List.mem_of_getElem? hj) _ hs,fun i u hi=>?_⟩
    rw [List.getElem?_take] at hi
    split at hi
    · rw [List.getElem?_drop] at hi
      rw [Addr.add_mid]
      exact (ha _ _ hi).1
    · cases hi
theorem row_mk {w:World} {e base:Nat} {ok:Nat→Prop} {v:Value} {xs:List α} (gs:List (Option Nat)) (hp:0<d.sz) (hl:∀ x,(c x).length=d.sz) (hf:∀ x,∀ y ∈ c x,flat y=true) (hk:∀ x ∈ xs,∀ cs ok',d.M w base ok' x cs→Reps (fun b _=>base≤b∧b<w.heap.size) gs w (c x) cs) (h:d.R e w base ok v xs):Rep (fun b _=>base≤b∧b<w.heap.size) gs w (.row (xs.map c) .no) v:=by
  obtain ⟨h0,inner,ho,hr⟩:=h
  by_cases hx0:xs=[]
  · subst hx0
    rcases ho.2 with ⟨rfl,_⟩ | ⟨g,cap,cur,rfl,_⟩
    · exact .empty _ _ .no (by simp)
    · exact .empty _ _ .no (by simp)
  have hpos:0<xs.length:=List.length_pos_iff.2 hx0
  rcases ho.2 with ⟨_,hz⟩ | ⟨g,cap,cur,rfl,hb,hh,hc,hcm,hcs,htk⟩
  · omega
  have hsz:∀ e ∈ xs.map c,e.length=d.sz:=len_map hl
  have hil:inner.length=(xs.map c).flatten.length:=by rw [flat_len hsz,List.length_map]; exact ho.1
  have key := Rep.row (F := fun b _ => base ≤ b ∧ b < w.heap.size) (gs := gs) (w := w) g 0 cap d.sz (xs.map c) inner .no (by simp) (by simpa using hx0) hsz hil (by rw [List.length_map]; exact hc) (by rw [List.length_map]; simp only [Go.maxLen] at hcm; omega)
    (fun j u hj=>⟨by have:=ho.cells (g:=g) rfl j u hj; rwa [Addr.add_mid] at this,hb,(Array.getElem?_eq_some_iff.1 hh).1⟩) (fun x hx=>?_) ?_
  · rw [List.length_map] at key; exact key
  · obtain ⟨e, he, hxe⟩ := List.mem_flatten.1 hx
    obtain ⟨y,_,rfl⟩:=List.mem_map.1 he
    exact hf y x hxe
  · refine reps_join hp hsz (fun j e he => ?_)
    rw [List.getElem?_map,Option.map_eq_some_iff] at he
    obtain ⟨x,hx,rfl⟩:=he
    exact hk x (List.mem_of_getElem? hx) _ _ (hr.2 j x hx)
theorem reps_one {F:Nat→Nat→Prop} {gs:List (Option Nat)} {w:World} {x:AV} {u:Value} (h:Rep F gs w x u):Reps F gs w [x] [u]:=⟨rfl,fun j y v hy hv=>by
  cases j with
  | zero=>simp at hy hv; subst hy; subst hv; exact h
  | succ j=>simp at hy⟩
theorem reps_at {F:Nat→Nat→Prop} {gs:List (Option Nat)} {w:World} {x:AV} {cs:List Value} (h:Reps F gs w [x] cs):∃ u,cs=[u]∧Rep F gs w x u:=by
  obtain ⟨hl,hr⟩:=h
  obtain ⟨u,rfl⟩:=List.length_eq_one_iff.1 hl
  exact ⟨u,rfl,hr 0 x u rfl rfl⟩
theorem reps_app {F:Nat→Nat→Prop} {gs:List (Option Nat)} {w:World} {xs ys:List AV} {us vs:List Value} (h1:Reps F gs w xs us) (h2:Reps F gs w ys vs):Reps F gs w (xs ++ ys) (us ++ vs):=by
  refine ⟨by simp [h1.1,h2.1],fun j x u hx hu=>?_⟩
  by_cases hj:j<xs.length
  · rw [List.getElem?_append_left hj] at hx
    rw [List.getElem?_append_left (by rw [h1.1]; exact hj)] at hu
    exact h1.2 j x u hx hu
  · rw [List.getElem?_append_right (by omega)] at hx
    rw [List.getElem?_append_right (by rw [h1.1]; omega),h1.1] at hu
    exact h2.2 _ x u hx hu
theorem reps_cut {F:Nat→Nat→Prop} {gs:List (Option Nat)} {w:World} {xs ys:List AV} {cs:List Value} (h:Reps F gs w (xs ++ ys) cs):∃ us vs,cs=us ++ vs∧Reps F gs w xs us∧Reps F gs w ys vs:=by
  have hl:cs.length=xs.length + ys.length:=by rw [h.1,List.length_append]
  refine ⟨cs.take xs.length,cs.drop xs.length,(List.take_append_drop _ _).symm,⟨by simp; omega,fun j x u hx hu=>?_⟩,⟨by simp; omega,fun j x u hx hu=>?_⟩⟩
  · have hj := (List.getElem?_eq_some_iff.1 hx).1
    rw [List.getElem?_take,if_pos hj] at hu
    exact h.2 j x u (by rw [List.getElem?_append_left hj]; exact hx) hu
  · rw [List.getElem?_drop] at hu
    exact h.2 (xs.length + j) x u (by rw [List.getElem?_append_right (by omega)]; simpa using hx) hu
theorem ka_scalar {enc : α → Value} {h1 : ∀ x, (enc x).oneCell' = true} (hp : ∀ x, plainV (enc x) = true) : KA (Kd.scalar enc h1) (fun x => [.val (enc x)]) where
  fwd:=fun gs h=>by have h:=h; subst h; exact reps_one (.val _ (hp _))
  of:=fun h=>by
    obtain ⟨u,rfl,hr⟩:=reps_at h
    cases hr with | val _ _=>rfl
  made:=fun gs h=>by have h:=h; subst h; exact reps_one (.val _ (hp _))
  len:=fun _=>rfl
  fl:=fun x y hy=>by rw [List.mem_singleton.1 hy]; rfl
theorem ka_int (k:IntKind):KA (Kd.int k) (fun x=>[.val (.int k x)]):=ka_scalar (fun _=>rfl)
theorem ka_string:KA Kd.string (fun x=>[.val (.string x)]):=ka_scalar (fun _=>rfl)
theorem ka_pair {β : Type} {d' : Kd β} {c' : β → List AV} (h : KA d c) (h' : KA d' c') : KA (Kd.pair d d') (fun x => c x.1 ++ c' x.2) where
  fwd:=fun gs hh=>by
    obtain ⟨c0,c1,rfl,h0,h1⟩:=hh
    exact reps_app (h.fwd gs h0) (h'.fwd gs h1)
  of:=fun hh=>by
    obtain ⟨us,vs,rfl,h0,h1⟩:=reps_cut hh
    exact ⟨us,vs,rfl,h.of h0,h'.of h1⟩
  made:=fun gs hh=>by
    obtain ⟨c0,c1,rfl,h0,h1⟩:=hh
    exact reps_app (h.made gs h0) (h'.made gs h1)
  len:=fun x=>by rw [List.length_append,h.len,h'.len]; rfl
  fl:=fun x y hy=>by
    rcases List.mem_append.1 hy with hy | hy
    · exact h.fl _ _ hy
    · exact h'.fl _ _ hy
theorem ka_iso {β : Type} (h : KA d c) (f : β → α) : KA (Kd.iso d f) (fun x => c (f x)) where
  fwd:=fun gs hh=>h.fwd gs hh
  of:=fun hh=>h.of hh
  made:=fun gs hh=>h.made gs hh
  len:=fun x=>h.len _
  fl:=fun x=>h.fl _
end
theorem rep_agg {F:Nat→Nat→Prop} {gs:List (Option Nat)} {w:World} {cells:List AV} {u:Value} (h:Rep F gs w (.agg cells) u):∃ us,u=.agg (List.toArray us)∧Reps F gs w cells us:=by
  cases h with
  | agg _ us hl hf hr=>exact ⟨us,rfl,hl,hr⟩
theorem rep_agg_mk {F:Nat→Nat→Prop} {gs:List (Option Nat)} {w:World} {cells:List AV} {us:List Value} (h:Reps F gs w cells us) (hf:cells.all flat=true):Rep F gs w (.agg cells) (.agg us.toArray):=.agg cells us h.1 (fun x hx=>List.all_eq_true.1 hf x hx) h.2
theorem rep_tup_mk {F:Nat→Nat→Prop} {gs:List (Option Nat)} {w:World} {cells:List AV} {us:List Value} (h:Reps F gs w cells us):Rep F gs w (.tup cells) (.tuple us.toArray):=.tup cells us h.1 h.2
theorem reps_cons {F:Nat→Nat→Prop} {gs:List (Option Nat)} {w:World} {x:AV} {xs:List AV} {cs:List Value} (h:Reps F gs w (x :: xs) cs):∃ u us,cs=u :: us∧Rep F gs w x u∧Reps F gs w xs us:=by
  obtain ⟨hl,hr⟩:=h
  cases cs with
  | nil=>simp at hl
  | cons u us=>exact ⟨u,us,rfl,hr 0 x u rfl rfl,by simpa using hl,fun j y v hy hv=>hr (j + 1) y v (by simpa using hy) (by simpa using hv)⟩
theorem reps_nil {F:Nat→Nat→Prop} {gs:List (Option Nat)} {w:World} {cs:List Value} (h:Reps F gs w [] cs):cs=[]:=List.eq_nil_of_length_eq_zero (by simpa using h.1)
theorem reps_nil_mk {F:Nat→Nat→Prop} {gs:List (Option Nat)} {w:World}:Reps F gs w [] []:=⟨rfl,fun j x u h=>by simp at h⟩
theorem reps_cons_mk {F:Nat→Nat→Prop} {gs:List (Option Nat)} {w:World} {x:AV} {xs:List AV} {u:Value} {us:List Value} (h:Rep F gs w x u) (hs:Reps F gs w xs us):Reps F gs w (x :: xs) (u :: us):=by
  refine ⟨by simp [hs.1],fun j y v hy hv=>?_⟩
  cases j with
  | zero=>simp at hy hv; subst hy; subst hv; exact h
  | succ j=>exact hs.2 j y v (by simpa using hy) (by simpa using hv)
theorem fn_below {P:Program} {f:FuncId} {args:List AV} {r:AV} (h:∀ (F:Nat→Nat→Prop) (gs:List (Option Nat)) (w:World) (vs:List Value),Reps F gs w args vs→Calls P f vs.toArray w fun e w'=>∃ v,e=.returned v∧Rep (fun b _=>w.heap.size≤b∧b<w'.heap.size) [] w' r v∧Below w.heap.size w w') (hr:resB r=true):Fn P f args [] r []:=fun C vs hM hv=>by
  refine (h _ _ _ _ hv).mono ?_
  rintro e w' ⟨v,rfl,hrep,hb⟩
  refine ⟨v,⟨fun b i=>C.F0 b i ∨ (C.w0.heap.size≤b∧b<w'.heap.size),C.gs0.map some,[]⟩,0,[],[],rfl,?_,((hrep.res hr).mono (fun b i hb=>⟨.inr hb,rfl⟩) (fun _ _ h=>h))⟩
  have hnil:C.gs0=[]:=by
    have:=hM.boxn
    simpa using this
  exact {
    os:=hb.os,tape:=hb.tape,output:=hb.output,size:=hb.size,block:=fun k hk _=>hb.block k hk
    grow:=fun _ _ h=>.inl h
    old:=fun b i h hlt=>by
      rcases h with h | ⟨h,_⟩
      · exact h
      · omega
    bound:=fun b i h=>by
      rcases h with h | ⟨_,h⟩
      · exact Nat.lt_of_lt_of_le (hM.bound b i h) hb.size
      · exact h
    pre:=hM.pre,boxn:=hM.boxn
    boxes:=fun i g cs _ hc=>by simp at hc
    fresh:=fun i g hg=>by simp [hnil] at hg
    inj:=fun i j g h1 h2=>by simp [hnil] at h1
    rown:=rfl,rows:=fun r v n e size h=>by simp at h
    rinj:=fun r r' v v' g h=>by simp at h
    rbox:=fun r i v g h=>by simp at h }
theorem fn_calls {P:Program} {f:FuncId} {args:List AV} {r:AV} (hf:Fn P f args [] r []) {w:World} {vs:List Value} (hv:Reps (fun b _=>b<w.heap.size) [] w args vs):Calls P f vs.toArray w fun e w'=>∃ v F gs,e=.returned v∧Rep F gs w' r v∧Below w.heap.size w w':=by
  refine (hf ⟨w,fun b _=>b<w.heap.size,[]⟩ vs ?_ hv).mono ?_
  · exact {
      os:=rfl,tape:=rfl,output:=rfl,size:=Nat.le_refl _,block:=fun _ _ _=>rfl,grow:=fun _ _ h=>h,old:=fun _ _ h _=>h,bound:=fun b i h=>h
      pre:=fun i g h=>by simp at h
      boxn:=rfl,boxes:=fun i g cs h=>by simp at h
      fresh:=fun i g h=>by simp at h
      inj:=fun i j g h=>by simp at h
      rown:=rfl,rows:=fun r v n e size h=>by simp at h
      rinj:=fun r r' v v' g h=>by simp at h
      rbox:=fun r i v g h=>by simp at h }
  · rintro e w' ⟨v, E, n, t, hh, rfl, hM, hr⟩
    exact ⟨v,E.F,E.gs,rfl,hr,hM.os,hM.tape,hM.output,hM.size,fun k hk=>hM.block k hk (by simp)⟩
end Go.Proofs.YtdlhidjphaaklaaGreat.V
end
section
namespace Go.Proofs.YtdlhidjphaaklaaGreat.V
open Go Go.RowKit
inductive W1 : AV → AV → Prop
  | same (x:AV):W1 x x
  | no (e:List (List AV)) (tag:Tag):W1 (.row e tag) (.row e .no)
  | any (x:AV) (h:V.flat x=true):W1 x .any
inductive WL : List AV → List AV → Prop
  | nil:WL [] []
  | cons {x y:AV} {xs ys:List AV} (h:W1 x y) (hs:WL xs ys):WL (x :: xs) (y :: ys)
inductive WB : List (List AV) → List (List AV) → Prop
  | nil (r:List (List AV)):WB r []
  | cons {x y:List AV} {xs ys:List (List AV)} (h:WL x y) (hs:WB xs ys):WB (x :: xs) (y :: ys)
section
variable {P:Program} {Q:Exit→St→Prop} {C:Ctx} {E:Env} {a:Act} {w:World} {s s':St}
theorem W1.rep {hh:List (Nat × Nat × Nat)} {x y:AV} {u:Value} (h:W1 x y) (hr:RepT E hh w x u):RepT E hh w y u:=by
  cases h with
  | same=>exact hr
  | no e tag=>exact ⟨hr.1.wk1,by intro c r h; simp at h⟩
  | any _ h=>exact ⟨.any u (hr.1.one h),by intro c r h; cases h⟩
theorem W1.flat {x y:AV} (h:W1 x y) (hx:flat x=true):V.flat y=true:=by
  cases h with
  | same=>exact hx
  | no=>rfl
  | any=>rfl
theorem WL.at {xs ys:List AV} (h:WL xs ys):xs.length=ys.length∧∀ (j:Nat) (y:AV),ys[j]?=some y→∃ x,xs[j]?=some x∧W1 x y:=by
  induction h with
  | nil=>exact ⟨rfl,fun j y h=>by simp at h⟩
  | cons h hs ih =>
    refine ⟨by simp [ih.1],fun j y hy=>?_⟩
    cases j with
    | zero=>simp at hy; subst hy; exact ⟨_,rfl,h⟩
    | succ j=>exact ih.2 j y (by simpa using hy)
theorem WB.at {xs ys:List (List AV)} (h:WB xs ys):ys.length≤xs.length∧∀ (j:Nat) (y:List AV),ys[j]?=some y→∃ x,xs[j]?=some x∧WL x y:=by
  induction h with
  | nil=>exact ⟨Nat.zero_le _,fun j y h=>by simp at h⟩
  | cons h hs ih =>
    refine ⟨by simp [ih.1],fun j y hy=>?_⟩
    cases j with
    | zero=>simp at hy; subst hy; exact ⟨_,rfl,h⟩
    | succ j=>exact ih.2 j y (by simpa using hy)
theorem WL.reps {hh:List (Nat × Nat × Nat)} {xs ys:List AV} {us:List Value} (h:WL xs ys) (hr:RepTs E hh w xs us):RepTs E hh w ys us:=by
  obtain ⟨hl,ha⟩:=h.at
  refine ⟨by rw [hr.1,hl],fun y hy=>?_,fun j y u hy hu=>?_⟩
  · obtain ⟨j, hj, rfl⟩ := List.getElem_of_mem hy
    obtain ⟨x,hx,hw⟩:=ha j _ (List.getElem?_eq_getElem hj)
    exact hw.flat (hr.2.1 x (List.mem_of_getElem? hx))
  · obtain ⟨x, hx, hw⟩ := ha j y hy
    exact hw.rep (hr.2.2 j x u hx hu)
theorem Inv.weak (hI:Inv C E s a w) {t:List (Nat × AV)} {b:List (List AV)} (ht:∀ d x,look t d=some x→∃ y,look s.t d=some y∧W1 y x) (hl:b.length=s.b.length) (hb:∀ (i:Nat) (c':List AV),(∃ g,E.gs[i]?=some (some g))→b[i]?=some c'→∃ c,s.b[i]?=some c∧(c=c' ∨ WL c c')):Inv C E ⟨s.n,t,b,s.h⟩ a w :=
  { hI with
    boxn:=by rw [hI.boxn,hl]
    boxes:=fun i g cs hg hc=>by
      obtain ⟨c,h1,h2⟩:=hb i cs ⟨g,hg⟩ hc
      obtain ⟨us,ty,h3,h4⟩:=hI.boxes i g c hg h1
      rcases h2 with rfl | h2
      · exact ⟨us,ty,h3,h4⟩
      · exact ⟨us,ty,h3,h2.reps h4⟩
    temps:=fun d x hd=>by
      obtain ⟨y,h1,h2⟩:=ht d x hd
      obtain ⟨u,h3,h4⟩:=hI.temps d y h1
      exact ⟨u,h3,h2.rep h4⟩ }
structure Cov3 (s s' : St) : Prop where
  n:s.n=s'.n
  b:WB s.b s'.b
  h:s.h.take s'.h.length=s'.h
  hl:Nat.ble s'.h.length s.h.length=true
  t:∀ d x,look s'.t d=some x→∃ y,look s.t d=some y∧W1 y x
  tin:s'.t.all (fun p=>inB s'.b.length s'.h.length p.2)=true
  bin:s'.b.all (fun cs=>cs.all (inB s'.b.length s'.h.length))=true
theorem sub3_nil {t:List (Nat × AV)}:∀ d x,look [] d=some x→∃ y,look t d=some y∧W1 y x:=fun d x h=>by cases h
theorem sub3_cons {t r:List (Nat × AV)} {e:Nat} {v y:AV} (h1:look t e=some y) (hw:W1 y v) (h2:∀ d x,look r d=some x→∃ y,look t d=some y∧W1 y x):∀ d x,look ((e,v) :: r) d=some x→∃ y,look t d=some y∧W1 y x:=fun d x hd=>by
  rw [look_cons] at hd
  by_cases q:e=d
  · rw [if_pos q] at hd; injection hd with hd; subst q; subst hd; exact ⟨y,h1,hw⟩
  · rw [if_neg q] at hd; exact h2 d x hd
theorem Inv.cov3 (hI:Inv C E s a w) (hc:Cov3 s s') (hg:C.gs0.length≤s'.b.length):∃ E',Inv C E' s' a w:=by
  obtain ⟨hbl,hba⟩:=hc.b.at
  have h1:=hI.weak (t:=s'.t) (b:=s'.b ++ s.b.drop s'.b.length) hc.t (by simp; omega) (fun i c' _ hi=>by
    by_cases hlt:i<s'.b.length
    · rw [List.getElem?_append_left hlt] at hi
      obtain ⟨c,h1,h2⟩:=hba i c' hi
      exact ⟨c,h1,.inr h2⟩
    · rw [List.getElem?_append_right (by omega), List.getElem?_drop] at hi
      exact ⟨c',by rw [show s'.b.length + (i - s'.b.length)=i by omega] at hi; exact hi,.inl rfl⟩)
  have h2:=h1.keep (m:=s'.b.length) (q:=s'.h.length) hg (by simp) (Nat.le_of_ble_eq_true hc.hl) (t:=s'.t) (fun d x h=>h) (fun d x h=>List.all_eq_true.1 hc.tin (d,x) (look_mem h)) (fun cells hcs x hx=>by
    simp only [List.take_left'] at hcs
    exact List.all_eq_true.1 (List.all_eq_true.1 hc.bin cells hcs) x hx)
  simp only [List.take_left'] at h2
  rw [hc.h,hc.n] at h2
  exact ⟨_,h2⟩
theorem w_loop3 {σ ρ : Type} {c x : Code} (T : σ → St) (g : Nat → σ → Option ρ) {r : ρ} (k : Nat) (v : σ) (hc : c = .loop x) (hg : ∀ v, g 0 v = none) (hT : ∀ v v', (T v).b.length = (T v').b.length) (hs : Cov3 s (T v)) (hbl : (T v).b.length = s.b.length) (H : g k v = some r)
    (round:∀ j v,j<k→g (j + 1) v=some r→AWP P (cl c) (thenQ (fun s'=>∃ m v',m≤j∧Cov3 s' (T v')∧g m v'=some r) Q) (T v)):AWP P c Q s:=fun C E a w hI=>by
  subst hc
  have hg0:C.gs0.length≤s.b.length:=by
    have hbn:=hI.boxn
    rcases Nat.lt_or_ge s.b.length C.gs0.length with hlt | hge
    · have h1 := hI.pre s.b.length (C.gs0[s.b.length]) (List.getElem?_eq_getElem hlt)
      have:=(List.getElem?_eq_some_iff.1 h1).1
      omega
    · exact hge
  have hgT:∀ v',C.gs0.length≤(T v').b.length:=fun v'=>by rw [hT v' v,hbl]; exact hg0
  let p:Act→World→Nat→Prop:=fun a w n=>n≤k∧∃ E v,g n v=some r∧Inv C E (T v) a w
  let μ:Act→World→Nat:=fun a w=>@dite _ (∃ m,p a w m∧∀ k,p a w k→m≤k) (Classical.propDecidable _) (fun h=>h.choose) (fun _=>0)
  have hμ:∀ a w n,p a w n→p a w (μ a w)∧μ a w≤n:=fun a w n h=>by
    have e:=least n h
    have:μ a w=e.choose:=dif_pos e
    rw [this]
    exact ⟨e.choose_spec.1,e.choose_spec.2 n h⟩
  obtain ⟨E0,hI0⟩:=hI.cov3 hs (hgT v)
  refine wp_loop (fun a w=>∃ n,p a w n) μ ⟨k,Nat.le_refl k,E0,v,H,hI0⟩ ?_
  rintro a w ⟨n,hn⟩
  obtain ⟨⟨hmk,E1,v1,h1,hI1⟩,hle⟩:=hμ a w n hn
  generalize hmu:μ a w=m at h1 hmk
  cases m with
  | zero=>rw [hg] at h1; cases h1
  | succ m =>
    refine wp_mono (round m v1 (by omega) h1 C E1 a w hI1) ?_
    rintro e a' w' ⟨E',s',hq,hI'⟩
    cases e with
    | normal =>
      obtain ⟨m',v',hmj,hcv,hv'⟩:=hq
      obtain ⟨E2,hI2⟩:=hI'.cov3 hcv (hgT v')
      have:=hμ a' w' m' ⟨by omega,E2,v',hv',hI2⟩
      exact ⟨⟨m',by omega,E2,v',hv',hI2⟩,by omega⟩
    | _=>exact ⟨E',s',hq,hI'⟩
theorem Inv.owned (hI:Inv C E s a w) (e sz:Nat) (hs:0<sz):Inv C { E with rs:=E.rs ++ [.slice none 0 0] } { s with h:=s.h ++ [(0,e,sz)] } a w∧(∀ x u,RepT E s.h w x u→RepT { E with rs:=E.rs ++ [.slice none 0 0] } (s.h ++ [(0,e,sz)]) w x u):=by
  have hh:∀ (r:Nat) (x:Nat × Nat × Nat),s.h[r]?=some x→(s.h ++ [(0,e,sz)])[r]?=some x:=fun r x h=>by rw [List.getElem?_append_left (List.getElem?_eq_some_iff.1 h).1]; exact h
  have hrs:∀ (r:Nat) (x:Value),E.rs[r]?=some x→(E.rs ++ [.slice none 0 0])[r]?=some x:=fun r x h=>by rw [List.getElem?_append_left (List.getElem?_eq_some_iff.1 h).1]; exact h
  have hinv:∀ (r:Nat) (v:Value),(E.rs ++ [Value.slice none 0 0])[r]?=some v→E.rs[r]?=some v ∨ (r=E.rs.length∧v=.slice none 0 0):=fun r v h=>by
    by_cases hi:r<E.rs.length
    · rw [List.getElem?_append_left hi] at h; exact .inl h
    · rw [List.getElem?_append_right (by omega)] at h
      have:r - E.rs.length=0:=by
        have:=(List.getElem?_eq_some_iff.1 h).1
        simp at this; omega
      rw [this] at h
      simp at h
      exact .inr ⟨by omega,h.symm⟩
  have hrep:∀ x u,RepT E s.h w x u→RepT { E with rs:=E.rs ++ [.slice none 0 0] } (s.h ++ [(0,e,sz)]) w x u:=fun x u h=>⟨h.1,fun elems r hx=>by
    obtain ⟨m,e1,s1,h1,h2,h3⟩:=h.2 elems r hx
    exact ⟨m,e1,s1,hh r _ h1,h2,fun h4=>hrs r _ (h3 h4)⟩⟩
  refine ⟨?_,hrep⟩
  exact { hI with
    boxes:=fun i g cs hg hc=>by
      obtain ⟨us,ty,h1,h2,h3,h4⟩:=hI.boxes i g cs hg hc
      exact ⟨us,ty,h1,h2,h3,fun j x u hx hu=>hrep x u (h4 j x u hx hu)⟩
    rown:=by simp [hI.rown]
    rows:=fun r v n e' size hv hn=>by
      rcases hinv r v hv with hv | ⟨rfl,rfl⟩
      · have hr : r < s.h.length := by rw [← hI.rown]; exact (List.getElem?_eq_some_iff.1 hv).1
        simp only at hn
        rw [List.getElem?_append_left hr] at hn
        exact hI.rows r v n e' size hv hn
      · simp only at hn
        rw [hI.rown,List.getElem?_append_right (Nat.le_refl _),Nat.sub_self] at hn
        simp at hn
        obtain ⟨rfl,rfl,rfl⟩:=hn
        exact ⟨hs,[],World.ownsRow_nil w _ _ _,by simp [Value.ownBlock]⟩
    rinj:=fun r r' v v' g h1 h2 h3 h4=>by
      rcases hinv r v h1 with h1 | ⟨_,rfl⟩
      · rcases hinv r' v' h2 with h2 | ⟨_, rfl⟩
        · exact hI.rinj r r' v v' g h1 h2 h3 h4
        · simp [Value.ownBlock] at h4
      · simp [Value.ownBlock] at h3
    rbox:=fun r i v g hv hg=>by
      rcases hinv r v hv with hv | ⟨_,rfl⟩
      · exact hI.rbox r i v g hv hg
      · simp [Value.ownBlock] at hg
    temps:=fun d x hd=>by
      obtain ⟨u,h1,h2⟩:=hI.temps d x hd
      exact ⟨u,h1,hrep x u h2⟩ }
theorem rep_nil_own {u:Value} {e sz:Nat} (hl:E.rs.length=s.h.length) (h:RepT E s.h w (.row [] .nil) u):RepT { E with rs:=E.rs ++ [.slice none 0 0] } (s.h ++ [(0,e,sz)]) w (.row [] (.own s.h.length)) u:=by
  have hu:u=.slice none 0 0:=by
    have h1:=h.1
    generalize hx:AV.row [] .nil=x at h1
    cases h1 with
    | nil=>rfl
    | empty A c tag ht=>injection hx with _ hx; exact absurd hx.symm ht
    | row g o c sz elems us tag ht h0=>injection hx with hx _; exact absurd hx.symm h0
    | _=>cases hx
  subst hu
  refine ⟨.empty _ _ _ (by simp),fun elems r hx=>?_⟩
  injection hx with h1 h2
  injection h2 with h2
  subst h1; subst h2
  exact ⟨0,e,sz,by simp,Nat.le_refl _,fun _=>by show (E.rs ++ [Value.slice none 0 0])[s.h.length]?=_; rw [← hl]; simp⟩
end
section
variable {P:Program} {Q:Exit→St→Prop} {n:Nat} {t:List (Nat × AV)} {b:List (List AV)} {h h0:Rows_} {ops:Array Oper} {rest l l0:List Oper} {d:Nat} {o:Oper} {k:Nat} {KD:List (Nat × AV)→Option Rows_→Prop} {c:Code}
theorem w_ownb (i j e sz:Nat) {cells:List AV} (hb:b[i]?=some cells) (hc:cells[j]?=some (.row [] .nil)) (hs:Nat.blt 0 sz=true) (k:AWP P c Q ⟨n,t,b.set i (cells.set j (.row [] (.own h.length))),h ++ [(0,e,sz)]⟩):AWP P c Q ⟨n,t,b,h⟩:=fun C E a w hI=>by
  obtain ⟨h1,h2⟩:=hI.owned e sz (by simpa [Nat.blt_eq] using hs)
  refine k C _ a w { h1 with boxn:=by simpa using h1.boxn,boxes:=fun q g cs hg hq=>?_ }
  simp only at hq
  by_cases e:q=i
  · subst e
    rw [List.getElem?_set_self (List.getElem?_eq_some_iff.1 hb).1] at hq
    injection hq with hq
    subst hq
    obtain ⟨us,ty,h3,h4,h5,h6⟩:=hI.boxes q g cells hg hb
    refine ⟨us,ty,h3,by simp [h4],fun x hx=>?_,fun p x u hx hu=>?_⟩
    · rcases List.mem_or_eq_of_mem_set hx with hx | rfl
      · exact h5 x hx
      · rfl
    · by_cases e : p = j
      · subst e
        rw [List.getElem?_set_self (List.getElem?_eq_some_iff.1 hc).1] at hx
        injection hx with hx
        subst hx
        exact rep_nil_own (s:=⟨n,t,b,h⟩) hI.rown (h6 p _ u hc hu)
      · rw [List.getElem?_set_ne (fun h => e h.symm)] at hx
        exact h2 x u (h6 p x u hx hu)
  · rw [List.getElem?_set_ne (fun h => e h.symm)] at hq
    exact h1.boxes q g cs hg hq
def oneOp (t:List (Nat × AV)) (o:Oper):Bool:=match o.op with
  | .call c=>match c.callee with
    | .builtin .append=>false
    | _=>c.args.toList.all fun y=>match ev t y with | some (.ptr _ _)=>false | _=>true
  | .alloc _=>false
  | .box _ _=>false
  | _=>true
theorem q_one (hl:l=o :: rest) (ho:oneOp t o=true) (hg:o.guard=none) (hd:o.dst=some d) (hn:Nat.blt d n=true) (k:One P o t b fun x=>AOps P ops l.tail Q ⟨n,(d,x) :: t,b,h⟩):AOps P ops l Q ⟨n,t,b,h⟩:=q_none hl hg hd hn k
theorem e_one {r:Option Rows_} (hl:l=o :: rest) (ho:oneOp (ctx l0 o t) o=true) (hg:o.guard=none) (hd:o.dst=some d) (hn:Nat.blt d n=true) (hk:One P o (ctx l0 o t) b fun x=>Draw P l0 n b h0 l.tail ((d,x) :: t) k r KD):Draw P l0 n b h0 l t k r KD:=e_none hl hg hd hn hk
theorem len_app {es es2:List (List AV)} {sz:Nat} (h1:∀ e ∈ es,e.length=sz) (h2:∀ e ∈ es2,e.length=sz):∀ e ∈ es ++ es2,e.length=sz:=fun e he=>(List.mem_append.1 he).elim (h1 e) (h2 e)
theorem len_lit {es:List (List AV)} {sz:Nat} (h:es.all (fun e=>Nat.beq e.length sz)=true):∀ e ∈ es,e.length=sz:=fun e he=>Nat.eq_of_beq_eq_true (List.all_eq_true.1 h e he)
theorem q_append {r m m2 : Nat} {tt e : TypeId} {sz bytes : Nat} {y z : Operand} {es es2 : List (List AV)} {tag2 : Tag} (hl : l = o :: rest) (ho : o.op = .call { callee := .builtin .append, args := #[y, z], argTypes := #[tt, tt] }) (hg : o.guard = none) (hd : o.dst = some d) (hn : Nat.blt d n = true) [hT : SlA P tt e sz bytes]
    (hy:ev t y=some (.row es (.own r))) (hz:ev t z=some (.row es2 tag2)) (hh:h[r]?=some (m,e,sz)) (hm:es.length=m) (hm2:es2.length=m2) (hs1:∀ e ∈ es,e.length=sz) (hs2:∀ e ∈ es2,e.length=sz) (hb:(m + m2)*bytes≤140737488355328∧m + m2≤140737488355328)
    (k:AOps P ops l.tail Q ⟨n,(d,.row (es ++ es2) (.own r)) :: t,b,putAt h r (m + m2,e,sz)⟩):AOps P ops l Q ⟨n,t,b,h⟩:=by
  subst hl; subst hm; subst hm2
  exact aops_append (s:=⟨n,t,b,h⟩) ho hy hz (.inr ⟨rfl,hh⟩) hs1 hs2 hb.1 hb.2 hg hd hn k
theorem q_litown {len : Nat} (d : Nat) {tt e : TypeId} {sz bytes : Nat} {xs : List (Nat × Operand)} {es : List (List AV)} (hl : l = o :: rest) (ho : o.op = .buildSlice tt len xs.toArray) (hg : o.guard = none) (hd : o.dst = some d) (hn : Nat.blt d n = true) [hT : SlA P tt e sz bytes]
    (hp:evs t xs 0=some es) (hsz:es.all (fun e=>Nat.beq e.length sz)=true) (hlen:xs.length=len) (hb:Nat.ble (len*sz) 16777216=true) (k:AOps P ops l.tail Q ⟨n,(d,.row es (.own h.length)) :: t,b,h ++ [(es.length,e,sz)]⟩):AOps P ops l Q ⟨n,t,b,h⟩:=by
  subst hl
  exact aops_lit (s:=⟨n,t,b,h⟩) ho hp (fun e he=>Nat.eq_of_beq_eq_true (List.all_eq_true.1 hsz e he)) hlen hb hg hd hn k
theorem e_append {r m m2 : Nat} {tt e : TypeId} {sz bytes : Nat} {y z : Operand} {es es2 : List (List AV)} {tag2 : Tag} (hl : l = o :: rest) (ho : o.op = .call { callee := .builtin .append, args := #[y, z], argTypes := #[tt, tt] }) (hg : o.guard = none) (hd : o.dst = some d) (hn : Nat.blt d n = true) [hT : SlA P tt e sz bytes]
    (hy:ev (ctx l0 o t) y=some (.row es (.own r))) (hz:ev (ctx l0 o t) z=some (.row es2 tag2)) (hh:h0[r]?=some (m,e,sz)) (hm:es.length=m) (hm2:es2.length=m2) (hs1:∀ e ∈ es,e.length=sz) (hs2:∀ e ∈ es2,e.length=sz) (hb:(m + m2)*bytes≤140737488355328∧m + m2≤140737488355328)
    (hk:Draw P l0 n b h0 l.tail ((d,.row (es ++ es2) (.own r)) :: t) k (some (putAt h0 r (m + m2,e,sz))) KD):Draw P l0 n b h0 l t k none KD:=by
  subst hl; subst hm; subst hm2
  obtain ⟨dst,op,type,pos,after,guard⟩:=o
  simp only at ho hg hd
  subst ho; subst hg; subst hd
  exact d_append hy hz (.inr ⟨rfl,hh⟩) hs1 hs2 hb.1 hb.2 hn hk
end
section
variable {P:Program} {C:Ctx} {E:Env} {a:Act} {w:World} {s:St}
def ResOks (P : Program) (s : St) : List ResultVar → List AV → Prop
  | [],[]=>True
  | rv :: rs,x :: xs=>ResOk P s rv x∧ResOks P s rs xs
  | _,_=>False
theorem res_all (hI : Inv C E s a w) : ∀ {rs : List ResultVar} {xs : List AV}, ResOks P s rs xs → ∃ vs, (rs.mapM (resGet a.tmps)).run P w = .ok vs w ∧ Reps E.F E.gs w (xs.map wk) vs
  | [],[],_=>⟨[],rfl,reps_nil_mk⟩
  | rv :: rs,x :: xs,h=>by
    obtain ⟨v,h1,h2⟩:=h.1 C E a w hI
    obtain ⟨vs,h3,h4⟩:=res_all hI h.2
    refine ⟨v :: vs,?_,reps_cons_mk h2.wk h4⟩
    rw [List.mapM_cons,Sem.run_bind,h1,Result.andThen_ok,Sem.run_bind,h3]
    rfl
  | [],_ :: _,h=>h.elim
  | _ :: _,[],h=>h.elim
theorem finN {fn:Func} {rvs:List ResultVar} {xs:List AV} (h:fn.results=rvs.toArray) (h1:Nat.beq rvs.length 1=false) (hx:ResOks P s rvs xs):∀ C E a w,Inv C E s a w→∃ v,(results fn a.tmps).run P w=.ok v w∧Rep E.F E.gs w (.tup (xs.map wk)) v:=fun C E a w hI=>by
  obtain ⟨vs,h2,h3⟩:=res_all hI hx
  refine ⟨.tuple vs.toArray,?_,rep_tup_mk h3⟩
  have hl:vs.toArray.size ≠ 1:=by
    have e1:xs.length=rvs.length:=by
      clear h h1 h2 h3
      induction rvs generalizing xs with
      | nil=>cases xs with
        | nil=>rfl
        | cons _ _=>exact hx.elim
      | cons _ _ ih=>cases xs with
        | nil=>exact hx.elim
        | cons _ _=>simp [ih hx.2]
    have e2:=h3.1
    simp only [List.length_map] at e2
    intro e
    have:rvs.length=1:=by rw [← e1,← e2]; simpa using e
    rw [this] at h1
    simp at h1
  have hm:(fn.results.mapM (m:=Sem) (resGet a.tmps)).run P w=.ok vs.toArray w:=by
    rw [h,Array.mapM_eq_mapM_toList,← bind_pure_comp,Sem.run_bind,h2]
    rfl
  have he:results fn a.tmps=(do let vs ← fn.results.mapM (resGet a.tmps); pure (if h:vs.size=1 then vs[0] else .tuple vs)):=rfl
  rw [he,Sem.run_bind,hm]
  simp only [Result.andThen_ok,Sem.run_pure,dif_neg hl]
theorem fqN {fn:Func} {rvs:List ResultVar} {xs rs:List AV} {e:Exit} {n:Nat} {t:List (Nat × AV)} {b bs':List (List AV)} {h:List (Nat × Nat × Nat)} (he:e=.normal ∨ e=.ret) (hf:fn.results=rvs.toArray) (h1:Nat.beq rvs.length 1=false) (hx:ResOks P ⟨n,t,b,h⟩ rvs xs) (hb:b.take bs'.length=bs') (hbl:Nat.ble bs'.length b.length=true) (hr:xs.map wk=rs) (hres:resB (.tup rs)=true):FinQ P fn (.tup rs) bs' e ⟨n,t,b,h⟩ :=
  ⟨he,hb,Nat.le_of_ble_eq_true hbl,.inl hres,hr ▸ finN hf h1 hx⟩
theorem fqb2 {fn:Func} {rv0 rv1:ResultVar} {x0 x1 r0 r1:AV} {e:Exit} {n:Nat} {t:List (Nat × AV)} {b bs':List (List AV)} {h:List (Nat × Nat × Nat)} (he:e=.normal ∨ e=.ret) (hf:fn.results=#[rv0,rv1]) (h0:ResOk P ⟨n,t,b,h⟩ rv0 x0) (h1:ResOk P ⟨n,t,b,h⟩ rv1 x1) (hb:b.take bs'.length=bs') (hbl:Nat.ble bs'.length b.length=true) (e0:wk x0=r0) (e1:wk x1=r1) (hres:resB (.tup [r0,r1])=true):FinQ P fn (.tup [r0,r1]) bs' e ⟨n,t,b,h⟩ :=
  fqN (rvs:=[rv0,rv1]) (xs:=[x0,x1]) he hf rfl ⟨h0,h1,trivial⟩ hb hbl (by subst e0 e1; rfl) hres
theorem fq1b {fn:Func} {rv:ResultVar} {x r:AV} {e:Exit} {n:Nat} {t:List (Nat × AV)} {b bs':List (List AV)} {h:List (Nat × Nat × Nat)} (he:e=.normal ∨ e=.ret) (hf:fn.results=#[rv]) (hx:ResOk P ⟨n,t,b,h⟩ rv x) (hb:b.take bs'.length=bs') (hbl:Nat.ble bs'.length b.length=true) (hr:wk x=r) (hres:resB r=true ∨ ∃ i o,r=.ptr i o∧i<bs'.length):FinQ P fn r bs' e ⟨n,t,b,h⟩ :=
  ⟨he,hb,Nat.le_of_ble_eq_true hbl,hres,hr ▸ fin1 hf hx⟩
end
section
variable {P:Program} {c:List (Nat × AV)} {b:List (List AV)} {K:AV→Prop} {dd:Option Nat} {tp:TypeId} {ps:String} {af:Array Edge} {gg:Option (Nat × Bool)}
end
end Go.Proofs.YtdlhidjphaaklaaGreat.V
end
section
namespace Go.Proofs.YtdlhidjphaaklaaGreat.V
open Go Go.RowKit
open Go.Proofs.YtdlhidjphaaklaaGreatW.PrintWords
open Go.Proofs.YtdlhidjphaaklaaGreatW
theorem wrapK_u8 (x:Int):wrapK .u8 x=x % 256:=rfl
theorem wrap64_u8 (x:Int):wrap64 (x % 256)=x % 256:=by unfold wrap64; omega
def cBy (x:Int):List AV:=[.val (.int .u8 x)]
section
variable {P:Program} {c:List (Nat × AV)} {b:List (List AV)} {K:AV→Prop} {dd:Option Nat} {tp:TypeId} {ps:String} {af:Array Edge} {gg:Option (Nat × Bool)}
theorem step_tostr {o:Oper} {t:List (Nat × AV)} {b:List (List AV)} {src dst:TypeId} {y:Operand} {xs:List Int} {es:List (List AV)} {tag:Tag} {e:TypeId} {sz bytes:Nat} (ho:o.op=.convert src dst y) (hy:ev t y=some (.row es tag)) (hes:es=xs.map cBy) [hs:SlA P src e sz bytes] [he:IntT P e .u8] [hT:StrT P dst]:Step P o t b (.val (.string (strOfNums xs))):=step_value fun C E s a w hI hb ht=>by
  subst hes
  have hu:=(hI.ev (ev_sub ht hy)).1
  obtain ⟨inf,zz,hF⟩:=slA_facts hs.out
  have hst:P.underlying dst=some .string:=by
    have h1:=hT.out
    cases hq:P.underlying dst with
    | none=>rw [hq] at h1; cases h1
    | some d=>rw [hq] at h1; cases d <;> first | rfl | cases h1
  obtain ⟨A,m,hv,hm,hc⟩:=row_of (d:=Kd.int .u8) (c:=cBy) (fun _=>rfl) (fun x _ cs h=>(ka_int .u8).of h) hu
  refine ⟨.string (strOfNums xs),?_,.val _ rfl,by intro _ _ e; cases e⟩
  have hr:=Kd.C_string (P:=P) (w:=w) (c:=m) hF.und he.out hst hc
  generalize a.eval=ρ at hv ⊢
  unfold execOp
  simp only [ho,hv,Sem.run_bind,hr,Result.andThen_ok]
  rfl
theorem s_tostr1 {src dst:TypeId} {y:Operand} {xs:List Int} {x:Int} {tag:Tag} {e:TypeId} {sz bytes:Nat} (hy:ev c y=some (.row (xs.map cBy ++ [[.val (.int .u8 x)]]) tag)) [hs:SlA P src e sz bytes] [he:IntT P e .u8] [hT:StrT P dst] (k:K (.val (.string (strOfNums (xs ++ [x]))))):One P { dst:=dd,op:=.convert src dst y,type:=tp,pos:=ps,after:=af,guard:=gg } c b K:=⟨_,step_tostr rfl hy (by rw [List.map_append]; rfl),k⟩
theorem s_tostrl {src dst:TypeId} {y:Operand} {x:Int} {tag:Tag} {e:TypeId} {sz bytes:Nat} (hy:ev c y=some (.row [[.val (.int .u8 x)]] tag)) [hs:SlA P src e sz bytes] [he:IntT P e .u8] [hT:StrT P dst] (k:K (.val (.string (strOfNums [x])))):One P { dst:=dd,op:=.convert src dst y,type:=tp,pos:=ps,after:=af,guard:=gg } c b K:=⟨_,step_tostr (xs:=[x]) rfl hy rfl,k⟩
theorem s_add64 {ty tz:TypeId} {y z:Operand} {u v:Int} (hy:ev c y=some (.val (.int .i64 u))) (hz:ev c z=some (.val (.int .i64 v))) (k:K (.val (.int .i64 (wrap64 (u + v))))):One P { dst:=dd,op:=.binOp .add ty y z tz,type:=tp,pos:=ps,after:=af,guard:=gg } c b K:=s_bin hy hz (w:=.int .i64 (wrapK .i64 (u + v))) (by simp [binV,ariI,cmpI]) k
theorem s_sub64 {ty tz:TypeId} {y z:Operand} {u v:Int} (hy:ev c y=some (.val (.int .i64 u))) (hz:ev c z=some (.val (.int .i64 v))) (k:K (.val (.int .i64 (wrap64 (u - v))))):One P { dst:=dd,op:=.binOp .sub ty y z tz,type:=tp,pos:=ps,after:=af,guard:=gg } c b K:=s_bin hy hz (w:=.int .i64 (wrapK .i64 (u - v))) (by simp [binV,ariI,cmpI]) k
theorem s_zsub {ty tz:TypeId} {y z:Operand} {k':IntKind} {u:Int} (hy:ev c y=some (.val (.int k' 0))) (hz:ev c z=some (.val (.int k' u))) (k:K (.val (.int k' (wrapK k' (-u))))):One P { dst:=dd,op:=.binOp .sub ty y z tz,type:=tp,pos:=ps,after:=af,guard:=gg } c b K:=s_bin hy hz (w:=.int k' (wrapK k' (0 - u))) (by simp [binV,ariI,cmpI]) (by rw [Int.zero_sub]; exact k)
theorem step_min {o:Oper} {t:List (Nat × AV)} {b:List (List AV)} {y z:Operand} {ts:Array TypeId} {k k':IntKind} {u v:Int} (ho:o.op=.call { callee:=.builtin .min,args:=#[y,z],argTypes:=ts }) (hy:ev t y=some (.val (.int k u))) (hz:ev t z=some (.val (.int k' v))):Step P o t b (.val (.int k (PrintWords.mn u v))):=step_value fun C E s a w hI hb ht=>by
  have h1:=(rep_val (hI.ev (ev_sub ht hy)).1).1
  have h2:=(rep_val (hI.ev (ev_sub ht hz)).1).1
  refine ⟨.int k (PrintWords.mn u v),?_,.val _ rfl,by intro _ _ e; cases e⟩
  generalize a.eval=ρ at h1 h2 ⊢
  unfold execOp
  simp [ho,resolve,invoke,builtin,h1,h2,Go.Proofs.YtdlhidjphaaklaaGreatW.PrintMore.min_two,Go.Proofs.YtdlhidjphaaklaaGreatW.PrintMore.min2_int,PrintWords.mn]
theorem step_max {o:Oper} {t:List (Nat × AV)} {b:List (List AV)} {y z:Operand} {ts:Array TypeId} {k k':IntKind} {u v:Int} (ho:o.op=.call { callee:=.builtin .max,args:=#[y,z],argTypes:=ts }) (hy:ev t y=some (.val (.int k u))) (hz:ev t z=some (.val (.int k' v))):Step P o t b (.val (.int k (PrintWords.mx u v))):=step_value fun C E s a w hI hb ht=>by
  have h1:=(rep_val (hI.ev (ev_sub ht hy)).1).1
  have h2:=(rep_val (hI.ev (ev_sub ht hz)).1).1
  refine ⟨.int k (PrintWords.mx u v),?_,.val _ rfl,by intro _ _ e; cases e⟩
  generalize a.eval=ρ at h1 h2 ⊢
  unfold execOp
  simp [ho,resolve,invoke,builtin,h1,h2,Go.Proofs.YtdlhidjphaaklaaGreatW.PrintMore.max_two,Go.Proofs.YtdlhidjphaaklaaGreatW.PrintMore.max2_int,PrintWords.mx]
theorem s_min {y z:Operand} {ts:Array TypeId} {k1 k2:IntKind} {u v:Int} (hy:ev c y=some (.val (.int k1 u))) (hz:ev c z=some (.val (.int k2 v))) (k:K (.val (.int k1 (PrintWords.mn u v)))):One P { dst:=dd,op:=.call { callee:=.builtin .min,args:=#[y,z],argTypes:=ts },type:=tp,pos:=ps,after:=af,guard:=gg } c b K:=⟨_,step_min rfl hy hz,k⟩
theorem s_max {y z:Operand} {ts:Array TypeId} {k1 k2:IntKind} {u v:Int} (hy:ev c y=some (.val (.int k1 u))) (hz:ev c z=some (.val (.int k2 v))) (k:K (.val (.int k1 (PrintWords.mx u v)))):One P { dst:=dd,op:=.call { callee:=.builtin .max,args:=#[y,z],argTypes:=ts },type:=tp,pos:=ps,after:=af,guard:=gg } c b K:=⟨_,step_max rfl hy hz,k⟩
class NoG (P : Program) (t : TypeId) : Prop where
  out:P.eqGuardType P.depth t=false
def valsOf : List AV → Option (List Value)
  | []=>some []
  | .val v :: r=>(valsOf r).map (v :: ·)
  | _=>none
theorem rep_vals {F : Nat → Nat → Prop} {gs : List (Option Nat)} {w : World} : ∀ {cells : List AV} {vs us : List Value}, valsOf cells = some vs → Reps F gs w cells us → us = vs
  | [],vs,us,h,hr=>by
    simp only [valsOf,Option.some.injEq] at h
    subst h; exact reps_nil hr
  | .val v :: r,vs,us,h,hr=>by
    simp only [valsOf,Option.map_eq_some_iff] at h
    obtain ⟨ws,h1,rfl⟩:=h
    obtain ⟨u,us',rfl,h2,h3⟩:=reps_cons hr
    obtain rfl:=(rep_val h2).1
    rw [rep_vals h1 h3]
theorem step_rec {P : Program} {o : Oper} {t : List (Nat × AV)} {b : List (List AV)} {op : BinOp} {ty tz : TypeId} {y z : Operand} {cy cz : List AV} {us vs : List Value} {c : Bool} (ho : o.op = .binOp op ty y z tz) (hy : ev t y = some (.agg cy)) (hz : ev t z = some (.agg cz)) (hu : valsOf cy = some us) (hv : valsOf cz = some vs)
    [hng:NoG P ty] (hop:op=.eql ∨ op=.neq) (h:∀ w:World,(Op.equal ty (.agg us.toArray) (.agg vs.toArray)).run P w=.ok c w):Step P o t b (.val (.bool (if op=.eql then c else !c))):=step_value fun C E s a w hI hb ht=>by
  obtain ⟨us',hy1,hy2⟩:=rep_agg (hI.ev (ev_sub ht hy)).1
  obtain ⟨vs',hz1,hz2⟩:=rep_agg (hI.ev (ev_sub ht hz)).1
  obtain rfl:=rep_vals hu hy2
  obtain rfl:=rep_vals hv hz2
  refine ⟨.bool (if op=.eql then c else !c),?_,.val _ rfl,by intro _ _ e; cases e⟩
  have hg:(eqGuard op ty y z (.agg us'.toArray) (.agg vs'.toArray)).run P w=.ok () w:=by
    rcases hop with rfl | rfl <;> simp [eqGuard,Sem.run_bind,hng.out]
  have h3:=h w
  generalize a.eval=ρ at hy1 hz1 ⊢
  unfold execOp
  rcases hop with rfl | rfl
  · simp only [ho, hy1, hz1, Sem.run_bind, hg, Result.andThen_ok]
    simp [binOp,h3]
  · simp only [ho, hy1, hz1, Sem.run_bind, hg, Result.andThen_ok]
    simp [binOp,h3]
theorem s_recne {P:Program} {c:List (Nat × AV)} {b:List (List AV)} {K:AV→Prop} {dd:Option Nat} {tp:TypeId} {ps:String} {af:Array Edge} {gg:Option (Nat × Bool)} {ty tz:TypeId} {y z:Operand} {cy cz:List AV} {us vs:List Value} {q q':Bool} [hng:NoG P ty] (hy:ev c y=some (.agg cy)) (hz:ev c z=some (.agg cz)) (hu:valsOf cy=some us) (hv:valsOf cz=some vs) (h:∀ w:World,(Op.equal ty (.agg us.toArray) (.agg vs.toArray)).run P w=.ok q w) (hq:(!q)=q') (k:K (.val (.bool q'))) :
    One P { dst:=dd,op:=.binOp .neq ty y z tz,type:=tp,pos:=ps,after:=af,guard:=gg } c b K:=⟨_,step_rec rfl hy hz hu hv (.inr rfl) h,by subst hq; exact k⟩
theorem step_callv {o : Oper} {t : List (Nat × AV)} {b : List (List AV)} {f : FuncId} {fn : Func} {y : Operand} {as_ : List Operand} {ts : Array TypeId} {args0 args : List AV} {r : AV} {bs : List (List AV)} (hf : Fn P f args [] r bs) (ho : o.op = .call { callee := .value y, args := as_.toArray, argTypes := ts }) (hy : ev t y = some (.val (.func (.func f) #[] #[]))) (ha : evl t as_ = some args0) (hw : args0.map wk = args)
    (harg:args.all argB=true) (hres:resB r=true) [hfn:FnIs P f fn]:Step P o t b (untag r):=fun C E s a w hI hb ht K Q hK=>by
  have hyv:=(rep_val (hI.ev (ev_sub ht hy)).1).1
  have h0:(execOp a.eval o).run P w=(execOp a.eval { o with op:=.call { callee:=.value (.func f),args:=as_.toArray,argTypes:=ts } }).run P w:=by
    unfold execOp
    have hf':a.eval (.func f)=.func (.func f) #[] #[]:=rfl
    simp only [ho,resolve,hyv,hf']
  have h1:=step_call (P:=P) (o:={ o with op:=.call { callee:=.value (.func f),args:=as_.toArray,argTypes:=ts } }) (t:=t) (b:=b) hf rfl ha hw harg hres C E s a w hI hb ht K Q hK
  unfold Oper.wp at h1 ⊢
  rw [h0]
  exact h1
theorem s_callv {f:FuncId} {fn:Func} {y:Operand} {as_:List Operand} {ts:Array TypeId} {args0 args:List AV} {r r':AV} {bs:List (List AV)} (hy:ev c y=some (.val (.func (.func f) #[] #[]))) (ha:evl c as_=some args0) (hf:Fn P f args [] r bs) (hw:args0.map wk=args) (harg:args.all argB=true) (hres:resB r=true) [hfn:FnIs P f fn] (hr:untag r=r') (k:K r') :
    One P { dst:=dd,op:=.call { callee:=.value y,args:=as_.toArray,argTypes:=ts },type:=tp,pos:=ps,after:=af,guard:=gg } c b K:=⟨_,step_callv hf rfl hy ha hw harg hres,hr ▸ k⟩
end
section
variable {P:Program} {Q:Exit→St→Prop} {n:Nat} {t:List (Nat × AV)} {b:List (List AV)} {h:Rows_} {ops:Array Oper} {rest l:List Oper} {d:Nat} {o:Oper}
end
end Go.Proofs.YtdlhidjphaaklaaGreat.V
end
section
namespace Go.Proofs.YtdlhidjphaaklaaGreat.V
open Go Go.RowKit
inductive Eff2
  | pure
  | box (k:Nat)
  | rows (h:Rows_)
  | bset (i:Nat) (cells:List AV)
def Does2 (P : Program) (ops : Array Oper) (o : Oper) (t : List (Nat × AV)) (b : List (List AV)) (h0 : Rows_) (x : AV) : Eff2 → Prop
  | .pure=>Does P ops o t b h0 x .pure
  | .box k=>Does P ops o t b h0 x (.box k)
  | .rows h=>Does P ops o t b h0 x (.rows h)
  | .bset i cells=>∀ C E s a w,Inv C E s a w→s.b=b→Sub t s.t→∀ K Q,(∀ E' u w',E'.gs=E.gs→(∀ s2,s2.b[i]?=s.b[i]?→s2.h=s.h→Inv C E s2 a w→Inv C E' { s2 with b:=s2.b.set i cells } a w')→RepT E' s.h w' x u→K (a.put o.dst u) w')→RunOp P ops o a w K Q
def anyAt (b:List (List AV)) (i:Nat):List (List AV):=match b[i]? with | some cs=>b.set i (cs.map fun _=>.any) | none=>b
def free (l:List Oper) (j q:Nat) (o:Oper):Bool :=
  bif Nat.beq q j then false else bif Nat.blt q j then !(predsOf o).contains q else match l[q]? with | some p=>!(predsOf p).contains j | none=>true
def vw (l:List Oper) (W:List (Nat × Nat)) (j:Nat) (o:Oper) (b:List (List AV)):List (List AV):=W.foldl (fun b p=>bif free l j p.1 o then anyAt b p.2 else b) b
def putT (d:Option Nat) (x:AV) (t:List (Nat × AV)):List (Nat × AV):=match d with | some d=>(d,x) :: t | none=>t
def dOk (n : Nat) : Option Nat → Bool
  | some d=>Nat.blt d n
  | none=>true
def boxOk (l:List Oper) (W:List (Nat × Nat)) (j:Nat) (o:Oper) (k:Nat):Bool:=W.all fun p=>!(Nat.beq p.2 k) || !(free l j p.1 o)
abbrev Plan2:=List (Option Nat × AV × Eff2)
def tabs2 : Plan2 → List (Nat × AV) → List (Nat × AV)
  | [],t=>t
  | q :: p,t=>tabs2 p (putT q.1 q.2.1 t)
def bAt : Plan2 → List (List AV) → List (List AV)
  | [],b=>b
  | (_,_,.bset i cells) :: p,b=>bAt p (b.set i cells)
  | _ :: p,b=>bAt p b
structure PlanOk2 (P : Program) (l0 : List Oper) (n : Nat) (W : List (Nat × Nat)) (h0 : Rows_) (j0 : Nat) (l : List Oper) (t : List (Nat × AV)) (b : List (List AV)) (k : Nat) (r : Option Rows_) (p : Plan2) (r' : Option Rows_) : Prop where
  len:p.length=l.length
  each:∀ (i:Nat) (o:Oper) (d:Option Nat) (x:AV) (e:Eff2),l[i]?=some o→p[i]?=some (d,x,e)→o.dst=d∧dOk n d=true∧Does2 P l0.toArray o (ctx l0 o (tabs2 (p.take i) t)) (vw l0 W (j0 + i) o (bAt (p.take i) b)) h0 x e
  boxk:∀ (i:Nat) (d:Option Nat) (x:AV) (j:Nat),p[i]?=some (d,x,.box j)→k≤j∧j<b.length
  boxu:∀ (i i':Nat) (d d':Option Nat) (x x':AV) (j:Nat),p[i]?=some (d,x,.box j)→p[i']?=some (d',x',.box j)→i=i'
  row:∀ (i:Nat) (d:Option Nat) (x:AV) (h:Rows_),p[i]?=some (d,x,.rows h)→r=none∧r'=some h
  rowu:∀ (i i':Nat) (d d':Option Nat) (x x':AV) (h h':Rows_),p[i]?=some (d,x,.rows h)→p[i']?=some (d',x',.rows h')→i=i'
  rowr:r'=r ∨ ∃ (i:Nat) (d:Option Nat) (x:AV) (h:Rows_),p[i]?=some (d,x,.rows h)∧r'=some h
  bfree:∀ (i:Nat) (o:Oper) (d:Option Nat) (x:AV) (j:Nat),l[i]?=some o→p[i]?=some (d,x,.box j)→boxOk l0 W (j0 + i) o j=true
  bw:∀ (i:Nat) (d:Option Nat) (x:AV) (q:Nat) (cells:List AV),p[i]?=some (d,x,.bset q cells)→(j0 + i,q) ∈ W∧∃ c,(bAt (p.take i) b)[q]?=some c∧c.length=cells.length
section
variable {P:Program} {Q:Exit→St→Prop} {n:Nat} {t0:List (Nat × AV)} {b:List (List AV)} {h0:Rows_} {W:List (Nat × Nat)}
structure Amid2 (C : Ctx) (l : List Oper) (n : Nat) (t0 : List (Nat × AV)) (b : List (List AV)) (h0 : Rows_) (p : Plan2) (L : Array Bool) (E : Env) (t : List (Nat × AV)) (bc : List (List AV)) (h : Rows_) (a : Act) (w : World) : Prop where
  inv:Inv C E ⟨n,t,bc,h⟩ a w
  size:L.size=l.length
  down:∀ (i:Nat) (o:Oper) (j:Nat),l[i]?=some o→L[i]?=some true→j ∈ predsOf o→L[j]?=some true
  old:∀ (d:Nat) (x:AV),look t0 d=some x→dstIs l d=false→look t d=some x
  new:∀ (i d:Nat) (x:AV) (e:Eff2),p[i]?=some (some d,x,e)→L[i]?=some true→look t d=some x
  pend:∀ (i:Nat) (d:Option Nat) (x:AV) (k:Nat),p[i]?=some (d,x,.box k)→L[i]?=some false→E.gs[k]?=some none
  hold:∀ (i:Nat) (d:Option Nat) (x:AV) (h':Rows_),p[i]?=some (d,x,.rows h')→L[i]?=some false→h=h0
  hnew:∀ (i:Nat) (d:Option Nat) (x:AV) (h':Rows_),p[i]?=some (d,x,.rows h')→L[i]?=some true→h=h'
  hnone:(∀ (i:Nat) (d:Option Nat) (x:AV) (h':Rows_),p[i]? ≠ some (d,x,.rows h'))→h=h0
  blen:bc.length=b.length
  bold:∀ i:Nat,(∀ (q:Nat) (d:Option Nat) (x:AV) (cells:List AV),p[q]?=some (d,x,.bset i cells)→L[q]?=some false)→bc[i]?=b[i]?
  bnew:∀ (q:Nat) (d:Option Nat) (x:AV) (i:Nat) (cells:List AV),p[q]?=some (d,x,.bset i cells)→L[q]?=some true→bc[i]?=some cells
end
def CK (P:Program) (C:Ctx) (R:Exit→Act→World→Prop) (c:Code):St→Prop:=fun s=>∀ E a w,Inv C E s a w→c.wp P R a w
def CE (C:Ctx) (R:Exit→Act→World→Prop):Exit→St→Prop:=fun e s=>∀ E a w,Inv C E s a w→R e a w
section
variable {P:Program} {C:Ctx} {R:Exit→Act→World→Prop} {s:St} {c x y:Code}
theorem ck_seq (hc:c=.seq x y) (k:AWP P (cl c) (thenQ (CK P C R (cr c)) (CE C R)) s):CK P C R c s:=by
  subst hc
  intro E a w hI
  refine wp_seq (wp_mono (k C E a w hI) ?_)
  rintro e a w ⟨E,s,hq,hI⟩
  cases e with
  | normal=>exact hq E a w hI
  | _=>exact hq E a w hI
theorem ck_less {n:Nat} {t t':List (Nat × AV)} {b b':List (List AV)} {h:List (Nat × Nat × Nat)} (ht:∀ d x,look t' d=some x→look t d=some x) (hb:b=b') (k:CK P C R c ⟨n,t',b',h⟩):CK P C R c ⟨n,t,b,h⟩:=by
  subst hb
  intro E a w hI
  exact k E a w (hI.less ht)
theorem ce_less {e:Exit} {n:Nat} {t t':List (Nat × AV)} {b b':List (List AV)} {h:List (Nat × Nat × Nat)} (ht:∀ d x,look t' d=some x→look t d=some x) (hb:b=b') (k:CE C R e ⟨n,t',b',h⟩):CE C R e ⟨n,t,b,h⟩:=by
  subst hb
  intro E a w hI
  exact k E a w (hI.less ht)
theorem less_nil {t:List (Nat × AV)}:∀ d x,look [] d=some x→look t d=some x:=fun d x h=>by cases h
theorem less_cons {t r:List (Nat × AV)} {e:Nat} {v:AV} (h1:look t e=some v) (h2:∀ d x,look r d=some x→look t d=some x):∀ d x,look ((e,v) :: r) d=some x→look t d=some x:=fun d x hd=>by
  rw [look_cons] at hd
  by_cases q:e=d
  · rw [if_pos q] at hd; injection hd with hd; subst q; subst hd; exact h1
  · rw [if_neg q] at hd; exact h2 d x hd
theorem calls_ck {f : FuncId} {fn : Func} {code : Code} {args : List AV} {n : Nat} {vs : List Value} {w : World} {R : Ending → World → Prop} (hf : P.funcs[f]? = some fn) (hb : fn.body = some code) (hn : fn.ntmps = n) (hargs : args.all (fun x => match x with | .row _ (.own _) => false | _ => true) = true) (hna : Nat.ble args.length n = true)
    (hr:Reps (fun b _=>b<w.heap.size) [] w args vs) (h:CK P ⟨w,fun b _=>b<w.heap.size,[]⟩ (bodyPost P fn R) code ⟨n,tmps0 args 0,[],[]⟩):Calls P f vs.toArray w R:=by
  subst hn
  have hn:=Nat.le_of_ble_eq_true hna
  have hsz:(vs.toArray ++ Array.replicate (fn.ntmps - vs.toArray.size) undef).size=fn.ntmps:=by simp [hr.1]; omega
  refine calls_of_wp hf hb (h ⟨fun b _=>b<w.heap.size,[],[]⟩ _ _ ?_)
  exact {
      os:=rfl,tape:=rfl,output:=rfl,size:=Nat.le_refl _,block:=fun _ _ _=>rfl,grow:=fun _ _ h=>h,old:=fun _ _ h _=>h,bound:=fun b i h=>h
      pre:=fun i g h=>by simp at h
      boxn:=rfl,boxes:=fun i g cs h=>by simp at h
      fresh:=fun i g h=>by simp at h
      inj:=fun i j g h=>by simp at h
      rown:=rfl,rows:=fun r v n e size h=>by simp at h
      rinj:=fun r r' v v' g h=>by simp at h
      rbox:=fun r i v g h=>by simp at h
      defers:=rfl
      tsz:=hsz
      temps:=fun d x hd=>by
        obtain ⟨_,hx⟩:=look_tmps0 args 0 d x hd
        rw [Nat.sub_zero] at hx
        have hlt:d<vs.length:=by rw [hr.1]; exact (List.getElem?_eq_some_iff.1 hx).1
        refine ⟨vs[d],?_,hr.2 d x _ hx (List.getElem?_eq_getElem hlt),fun es q e=>?_⟩
        · rw [Array.getElem?_append_left (by simpa using hlt)]
          simp [hlt]
        · have := List.all_eq_true.1 hargs x (List.mem_of_getElem? hx)
          rw [e] at this
          cases this }
theorem Inv.box_at {E:Env} {n:Nat} {t:List (Nat × AV)} {b:List (List AV)} {hh:List (Nat × Nat × Nat)} {a:Act} {w:World} (hI:Inv C E ⟨n,t,b,hh⟩ a w) {d i:Nat} {cells:List AV} (ht:look t d=some (.ptr i 0)) (hb:b[i]?=some cells) :
    ∃ g us ty,a.tmps[d]?=some (.pointer (some ⟨g,0,none⟩))∧E.gs[i]?=some (some g)∧w.heap[g]?=some (.cells (List.toArray us) ty (0,0))∧Reps E.F E.gs w cells us:=by
  obtain ⟨u,h1,h2,h3⟩:=hI.temps d _ ht
  cases h2 with
  | ptr _ _ g hg =>
    obtain ⟨us,ty,h4,h5⟩:=hI.boxes i g cells hg hb
    exact ⟨g,us,ty,h1,hg,h4,h5.1,fun j x u hx hu=>(h5.2.2 j x u hx hu).1⟩
theorem cons_of {α:Type} {l:List α} {n:Nat} (h:l.length=n + 1):∃ x r,l=x :: r∧r.length=n:=by
  cases l with
  | nil=>cases h
  | cons x r=>exact ⟨x,r,rfl,by simpa using h⟩
end
end Go.Proofs.YtdlhidjphaaklaaGreat.V
end
section
namespace Go.Proofs.YtdlhidjphaaklaaGreat.V
open Go Go.Proofs.YtdlhidjphaaklaaGreat
instance:Mixed Tryz.prog:=⟨by kernel_rfl⟩
instance:Ty Tryz.prog 3 (.one):=⟨by kernel_rfl⟩
instance:IntT Tryz.prog 3 .i64:=⟨by kernel_rfl⟩
instance:IntT Tryz.prog 5 .u8:=⟨by kernel_rfl⟩
instance:Ty Tryz.prog 9 (.one):=⟨by kernel_rfl⟩
instance:StrT Tryz.prog 9:=⟨by kernel_rfl⟩
instance:IntT Tryz.prog 21 .i32:=⟨by kernel_rfl⟩
instance:Ty Tryz.prog 22 (.one):=⟨by kernel_rfl⟩
instance:SlA Tryz.prog 22 9 1 16:=⟨by kernel_rfl⟩
instance:Ty Tryz.prog 27 (.one):=⟨by kernel_rfl⟩
instance:SlA Tryz.prog 27 61 3 32:=⟨by kernel_rfl⟩
instance:Ty Tryz.prog 30 (.one):=⟨by kernel_rfl⟩
instance:SlA Tryz.prog 30 32 5 80:=⟨by kernel_rfl⟩
instance:Ty Tryz.prog 32 (.agg 5):=⟨by kernel_rfl⟩
instance:Zr Tryz.prog 32 [(.val (.int .i64 0)),(.val (.int .i64 0)),(.val (.string ⟨#[]⟩)),(.row [] .nil),(.row [] .nil)]:=⟨by kernel_rfl⟩
instance:Bld Tryz.prog 32 [(0,1),(1,1),(2,1),(3,1),(4,1)] [(.val (.int .i64 0)),(.val (.int .i64 0)),(.val (.string ⟨#[]⟩)),(.row [] .nil),(.row [] .nil)]:=⟨by kernel_rfl⟩
instance:Fld Tryz.prog 32 0 0 (.one):=⟨by kernel_rfl⟩
instance:Fld Tryz.prog 32 1 1 (.one):=⟨by kernel_rfl⟩
instance:Fld Tryz.prog 32 2 2 (.one):=⟨by kernel_rfl⟩
instance:Fld Tryz.prog 32 3 3 (.one):=⟨by kernel_rfl⟩
instance:Fld Tryz.prog 32 4 4 (.one):=⟨by kernel_rfl⟩
instance:Ty Tryz.prog 39 (.one):=⟨by kernel_rfl⟩
instance:SlA Tryz.prog 39 113 3 32:=⟨by kernel_rfl⟩
instance:Ty Tryz.prog 42 (.one):=⟨by kernel_rfl⟩
instance:SlA Tryz.prog 42 116 2 32:=⟨by kernel_rfl⟩
instance:Fld Tryz.prog 44 0 0 (.one):=⟨by kernel_rfl⟩
instance:Fld Tryz.prog 44 1 1 (.one):=⟨by kernel_rfl⟩
instance:Fld Tryz.prog 44 4 4 (.one):=⟨by kernel_rfl⟩
instance:Fld Tryz.prog 44 6 9 (.one):=⟨by kernel_rfl⟩
instance:Ty Tryz.prog 47 (.agg 4):=⟨by kernel_rfl⟩
instance:Zr Tryz.prog 47 [(.val (.int .i64 0)),(.val (.int .i64 0)),(.val (.int .i64 0)),(.val (.int .i64 0))]:=⟨by kernel_rfl⟩
instance:Bld Tryz.prog 47 [(0,1),(1,1),(2,1),(3,1)] [(.val (.int .i64 0)),(.val (.int .i64 0)),(.val (.int .i64 0)),(.val (.int .i64 0))]:=⟨by kernel_rfl⟩
instance:NoG Tryz.prog 47:=⟨by kernel_rfl⟩
instance:Fld Tryz.prog 47 0 0 (.one):=⟨by kernel_rfl⟩
instance:Fld Tryz.prog 47 1 1 (.one):=⟨by kernel_rfl⟩
instance:Fld Tryz.prog 47 2 2 (.one):=⟨by kernel_rfl⟩
instance:Fld Tryz.prog 47 3 3 (.one):=⟨by kernel_rfl⟩
instance:Ty Tryz.prog 48 (.one):=⟨by kernel_rfl⟩
instance:SlA Tryz.prog 48 124 2 32:=⟨by kernel_rfl⟩
instance:Ty Tryz.prog 50 (.agg 10):=⟨by kernel_rfl⟩
instance:Fld Tryz.prog 50 0 0 (.one):=⟨by kernel_rfl⟩
instance:Fld Tryz.prog 50 1 1 (.one):=⟨by kernel_rfl⟩
instance:Fld Tryz.prog 50 2 2 (.one):=⟨by kernel_rfl⟩
instance:Fld Tryz.prog 50 3 3 (.one):=⟨by kernel_rfl⟩
instance:Fld Tryz.prog 50 4 4 (.one):=⟨by kernel_rfl⟩
instance:Fld Tryz.prog 50 5 5 (.agg 4):=⟨by kernel_rfl⟩
instance:Fld Tryz.prog 50 6 9 (.one):=⟨by kernel_rfl⟩
instance:Ty Tryz.prog 61 (.agg 3):=⟨by kernel_rfl⟩
instance:Zr Tryz.prog 61 [(.val (.string ⟨#[]⟩)),(.val (.int .i64 0)),(.val (.int .i64 0))]:=⟨by kernel_rfl⟩
instance:Fld Tryz.prog 61 0 0 (.one):=⟨by kernel_rfl⟩
instance:Fld Tryz.prog 61 1 1 (.one):=⟨by kernel_rfl⟩
instance:Fld Tryz.prog 61 2 2 (.one):=⟨by kernel_rfl⟩
instance:SlA Tryz.prog 102 5 1 1:=⟨by kernel_rfl⟩
instance:Ty Tryz.prog 113 (.agg 3):=⟨by kernel_rfl⟩
instance:Fld Tryz.prog 113 0 0 (.one):=⟨by kernel_rfl⟩
instance:Ty Tryz.prog 116 (.agg 2):=⟨by kernel_rfl⟩
instance:Fld Tryz.prog 116 0 0 (.one):=⟨by kernel_rfl⟩
instance:Fld Tryz.prog 116 1 1 (.one):=⟨by kernel_rfl⟩
instance:Ty Tryz.prog 124 (.agg 2):=⟨by kernel_rfl⟩
instance:Zr Tryz.prog 124 [(.val (.string ⟨#[]⟩)),(.val (.string ⟨#[]⟩))]:=⟨by kernel_rfl⟩
instance:Fld Tryz.prog 124 0 0 (.one):=⟨by kernel_rfl⟩
instance:Fld Tryz.prog 124 1 1 (.one):=⟨by kernel_rfl⟩
instance:FnIs Tryz.prog 12 Tryz.f12:=⟨Tryz.func12,by kernel_rfl,by kernel_rfl⟩
instance:FnIs Tryz.prog 13 Tryz.f13:=⟨Tryz.func13,by kernel_rfl,by kernel_rfl⟩
instance:FnIs Tryz.prog 32 Tryz.f32:=⟨Tryz.func32,by kernel_rfl,by kernel_rfl⟩
instance:FnIs Tryz.prog 35 Tryz.f35:=⟨Tryz.func35,by kernel_rfl,by kernel_rfl⟩
instance:FnIs Tryz.prog 38 Tryz.f38:=⟨Tryz.func38,by kernel_rfl,by kernel_rfl⟩
instance:FnIs Tryz.prog 41 Tryz.f41:=⟨Tryz.func41,by kernel_rfl,by kernel_rfl⟩
instance:FnIs Tryz.prog 45 Tryz.f45:=⟨Tryz.func45,by kernel_rfl,by kernel_rfl⟩
instance:FnIs Tryz.prog 46 Tryz.f46:=⟨Tryz.func46,by kernel_rfl,by kernel_rfl⟩
instance:FnIs Tryz.prog 47 Tryz.f47:=⟨Tryz.func47,by kernel_rfl,by kernel_rfl⟩
instance:FnIs Tryz.prog 50 Tryz.f50:=⟨Tryz.func50,by kernel_rfl,by kernel_rfl⟩
instance:FnIs Tryz.prog 51 Tryz.f51:=⟨Tryz.func51,by kernel_rfl,by kernel_rfl⟩
instance:FnIs Tryz.prog 52 Tryz.f52:=⟨Tryz.func52,by kernel_rfl,by kernel_rfl⟩
instance:FnIs Tryz.prog 53 Tryz.f53:=⟨Tryz.func53,by kernel_rfl,by kernel_rfl⟩
instance:FnIs Tryz.prog 54 Tryz.f54:=⟨Tryz.func54,by kernel_rfl,by kernel_rfl⟩
instance:FnIs Tryz.prog 55 Tryz.f55:=⟨Tryz.func55,by kernel_rfl,by kernel_rfl⟩
instance:FnIs Tryz.prog 56 Tryz.f56:=⟨Tryz.func56,by kernel_rfl,by kernel_rfl⟩
instance:FnIs Tryz.prog 57 Tryz.f57:=⟨Tryz.func57,by kernel_rfl,by kernel_rfl⟩
instance:FnIs Tryz.prog 58 Tryz.f58:=⟨Tryz.func58,by kernel_rfl,by kernel_rfl⟩
instance:FnIs Tryz.prog 62 Tryz.f62:=⟨Tryz.func62,by kernel_rfl,by kernel_rfl⟩
instance:FnIs Tryz.prog 63 Tryz.f63:=⟨Tryz.func63,by kernel_rfl,by kernel_rfl⟩
instance:FnIs Tryz.prog 64 Tryz.f64:=⟨Tryz.func64,by kernel_rfl,by kernel_rfl⟩
instance:FnIs Tryz.prog 65 Tryz.f65:=⟨Tryz.func65,by kernel_rfl,by kernel_rfl⟩
instance:FnIs Tryz.prog 66 Tryz.f66:=⟨Tryz.func66,by kernel_rfl,by kernel_rfl⟩
instance:FnIs Tryz.prog 67 Tryz.f67:=⟨Tryz.func67,by kernel_rfl,by kernel_rfl⟩
instance:FnIs Tryz.prog 68 Tryz.f68:=⟨Tryz.func68,by kernel_rfl,by kernel_rfl⟩
instance:FnIs Tryz.prog 69 Tryz.f69:=⟨Tryz.func69,by kernel_rfl,by kernel_rfl⟩
instance:FnIs Tryz.prog 71 Tryz.f71:=⟨Tryz.func71,by kernel_rfl,by kernel_rfl⟩
instance:FnIs Tryz.prog 72 Tryz.f72:=⟨Tryz.func72,by kernel_rfl,by kernel_rfl⟩
instance:FnIs Tryz.prog 73 Tryz.f73:=⟨Tryz.func73,by kernel_rfl,by kernel_rfl⟩
instance:FnIs Tryz.prog 76 Tryz.f76:=⟨Tryz.func76,by kernel_rfl,by kernel_rfl⟩
instance:FnIs Tryz.prog 78 Tryz.f78:=⟨Tryz.func78,by kernel_rfl,by kernel_rfl⟩
instance:FnIs Tryz.prog 79 Tryz.f79:=⟨Tryz.func79,by kernel_rfl,by kernel_rfl⟩
instance:FnIs Tryz.prog 82 Tryz.f82:=⟨Tryz.func82,by kernel_rfl,by kernel_rfl⟩
instance:FnIs Tryz.prog 85 Tryz.f85:=⟨Tryz.func85,by kernel_rfl,by kernel_rfl⟩
instance:FnIs Tryz.prog 86 Tryz.f86:=⟨Tryz.func86,by kernel_rfl,by kernel_rfl⟩
instance:FnIs Tryz.prog 87 Tryz.f87:=⟨Tryz.func87,by kernel_rfl,by kernel_rfl⟩
instance:FnIs Tryz.prog 88 Tryz.f88:=⟨Tryz.func88,by kernel_rfl,by kernel_rfl⟩
instance:FnIs Tryz.prog 89 Tryz.f89:=⟨Tryz.func89,by kernel_rfl,by kernel_rfl⟩
instance:FnIs Tryz.prog 93 Tryz.f93:=⟨Tryz.func93,by kernel_rfl,by kernel_rfl⟩
instance:FnIs Tryz.prog 94 Tryz.f94:=⟨Tryz.func94,by kernel_rfl,by kernel_rfl⟩
instance:FnIs Tryz.prog 95 Tryz.f95:=⟨Tryz.func95,by kernel_rfl,by kernel_rfl⟩
instance:FnIs Tryz.prog 96 Tryz.f96:=⟨Tryz.func96,by kernel_rfl,by kernel_rfl⟩
instance:FnIs Tryz.prog 97 Tryz.f97:=⟨Tryz.func97,by kernel_rfl,by kernel_rfl⟩
instance:FnIs Tryz.prog 101 Tryz.f101:=⟨Tryz.func101,by kernel_rfl,by kernel_rfl⟩
instance:FnIs Tryz.prog 102 Tryz.f102:=⟨Tryz.func102,by kernel_rfl,by kernel_rfl⟩
instance:FnIs Tryz.prog 103 Tryz.f103:=⟨Tryz.func103,by kernel_rfl,by kernel_rfl⟩
instance:FnIs Tryz.prog 108 Tryz.f108:=⟨Tryz.func108,by kernel_rfl,by kernel_rfl⟩
instance:FnIs Tryz.prog 109 Tryz.f109:=⟨Tryz.func109,by kernel_rfl,by kernel_rfl⟩
instance:FnIs Tryz.prog 110 Tryz.f110:=⟨Tryz.func110,by kernel_rfl,by kernel_rfl⟩
instance:FnIs Tryz.prog 111 Tryz.f111:=⟨Tryz.func111,by kernel_rfl,by kernel_rfl⟩
instance:FnIs Tryz.prog 112 Tryz.f112:=⟨Tryz.func112,by kernel_rfl,by kernel_rfl⟩
instance:FnIs Tryz.prog 115 Tryz.f115:=⟨Tryz.func115,by kernel_rfl,by kernel_rfl⟩
instance:FnIs Tryz.prog 116 Tryz.f116:=⟨Tryz.func116,by kernel_rfl,by kernel_rfl⟩
instance:FnIs Tryz.prog 117 Tryz.f117:=⟨Tryz.func117,by kernel_rfl,by kernel_rfl⟩
instance:FnIs Tryz.prog 120 Tryz.f120:=⟨Tryz.func120,by kernel_rfl,by kernel_rfl⟩
instance:FnIs Tryz.prog 121 Tryz.f121:=⟨Tryz.func121,by kernel_rfl,by kernel_rfl⟩
instance:FnIs Tryz.prog 122 Tryz.f122:=⟨Tryz.func122,by kernel_rfl,by kernel_rfl⟩
instance:FnIs Tryz.prog 123 Tryz.f123:=⟨Tryz.func123,by kernel_rfl,by kernel_rfl⟩
instance:FnIs Tryz.prog 131 Tryz.f131:=⟨Tryz.func131,by kernel_rfl,by kernel_rfl⟩
instance:FnIs Tryz.prog 132 Tryz.f132:=⟨Tryz.func132,by kernel_rfl,by kernel_rfl⟩
instance:FnIs Tryz.prog 133 Tryz.f133:=⟨Tryz.func133,by kernel_rfl,by kernel_rfl⟩
instance:FnIs Tryz.prog 134 Tryz.f134:=⟨Tryz.func134,by kernel_rfl,by kernel_rfl⟩
instance:FnIs Tryz.prog 135 Tryz.f135:=⟨Tryz.func135,by kernel_rfl,by kernel_rfl⟩
instance:FnIs Tryz.prog 136 Tryz.f136:=⟨Tryz.func136,by kernel_rfl,by kernel_rfl⟩
instance:FnIs Tryz.prog 137 Tryz.f137:=⟨Tryz.func137,by kernel_rfl,by kernel_rfl⟩
instance:FnIs Tryz.prog 138 Tryz.f138:=⟨Tryz.func138,by kernel_rfl,by kernel_rfl⟩
instance:FnIs Tryz.prog 139 Tryz.f139:=⟨Tryz.func139,by kernel_rfl,by kernel_rfl⟩
instance:FnIs Tryz.prog 140 Tryz.f140:=⟨Tryz.func140,by kernel_rfl,by kernel_rfl⟩
instance:FnIs Tryz.prog 144 Tryz.f144:=⟨Tryz.func144,by kernel_rfl,by kernel_rfl⟩
instance:FnIs Tryz.prog 145 Tryz.f145:=⟨Tryz.func145,by kernel_rfl,by kernel_rfl⟩
instance:FnIs Tryz.prog 146 Tryz.f146:=⟨Tryz.func146,by kernel_rfl,by kernel_rfl⟩
instance:FnIs Tryz.prog 153 Tryz.f153:=⟨Tryz.func153,by kernel_rfl,by kernel_rfl⟩
instance:FnIs Tryz.prog 156 Tryz.f156:=⟨Tryz.func156,by kernel_rfl,by kernel_rfl⟩
instance:FnIs Tryz.prog 157 Tryz.f157:=⟨Tryz.func157,by kernel_rfl,by kernel_rfl⟩
instance:FnIs Tryz.prog 158 Tryz.f158:=⟨Tryz.func158,by kernel_rfl,by kernel_rfl⟩
instance:FnIs Tryz.prog 159 Tryz.f159:=⟨Tryz.func159,by kernel_rfl,by kernel_rfl⟩
instance:FnIs Tryz.prog 160 Tryz.f160:=⟨Tryz.func160,by kernel_rfl,by kernel_rfl⟩
instance:FnIs Tryz.prog 161 Tryz.f161:=⟨Tryz.func161,by kernel_rfl,by kernel_rfl⟩
instance:FnIs Tryz.prog 162 Tryz.f162:=⟨Tryz.func162,by kernel_rfl,by kernel_rfl⟩
instance:FnIs Tryz.prog 163 Tryz.f163:=⟨Tryz.func163,by kernel_rfl,by kernel_rfl⟩
instance:FnIs Tryz.prog 164 Tryz.f164:=⟨Tryz.func164,by kernel_rfl,by kernel_rfl⟩
instance:FnIs Tryz.prog 169 Tryz.f169:=⟨Tryz.func169,by kernel_rfl,by kernel_rfl⟩
instance:FnIs Tryz.prog 170 Tryz.f170:=⟨Tryz.func170,by kernel_rfl,by kernel_rfl⟩
instance:FnIs Tryz.prog 171 Tryz.f171:=⟨Tryz.func171,by kernel_rfl,by kernel_rfl⟩
instance:FnIs Tryz.prog 172 Tryz.f172:=⟨Tryz.func172,by kernel_rfl,by kernel_rfl⟩
instance:FnIs Tryz.prog 175 Tryz.f175:=⟨Tryz.func175,by kernel_rfl,by kernel_rfl⟩
instance:FnIs Tryz.prog 183 Tryz.f183:=⟨Tryz.func183,by kernel_rfl,by kernel_rfl⟩
instance:FnIs Tryz.prog 184 Tryz.f184:=⟨Tryz.func184,by kernel_rfl,by kernel_rfl⟩
instance:FnIs Tryz.prog 185 Tryz.f185:=⟨Tryz.func185,by kernel_rfl,by kernel_rfl⟩
instance:FnIs Tryz.prog 186 Tryz.f186:=⟨Tryz.func186,by kernel_rfl,by kernel_rfl⟩
instance:FnIs Tryz.prog 189 Tryz.f189:=⟨Tryz.func189,by kernel_rfl,by kernel_rfl⟩
def cS (x:ByteArray):List AV:=[.val (.string x)]
def cI (k:IntKind) (x:Int):List AV:=[.val (.int k x)]
instance:Zf ByteArray:=⟨⟨#[]⟩⟩
theorem s_bt {P:Program} {c:List (Nat × AV)} {b:List (List AV)} {K:AV→Prop} {dd:Option Nat} {tp:TypeId} {ps:String} {af:Array Edge} {gg:Option (Nat × Bool)} {ty:TypeId} {y z:Operand} {x:ByteArray} {k':IntKind} {i:Int} (hy:ev c y=some (.val (.string x))) (hz:ev c z=some (.val (.int k' i))) [hT:StrT P ty] (h0:0≤i) (h1:i<x.size) (k:K (.val (.int .u8 (Go.Proofs.YtdlhidjphaaklaaGreatW.PrintWords.bt x i)))):One P { dst:=dd,op:=.index ty y z,type:=tp,pos:=ps,after:=af,guard:=gg } c b K:=s_byte hy hz h0 h1 k
theorem s_ixS {P_:Program} {c:List (Nat × AV)} {b:List (List AV)} {K:AV→Prop} {dd:Option Nat} {tp:TypeId} {ps:String} {af:Array Edge} {gg:Option (Nat × Bool)} {ty:TypeId} {y z:Operand} {k':IntKind} {i:Int} {e:TypeId} {sz bytes:Nat} {xs:List ByteArray} {tag:Tag} (hy:ev c y=some (.row (xs.map cS) tag)) (hz:ev c z=some (.val (.int k' i))) [hT:SlA P_ ty e sz bytes] (h0:0≤i) (h1:i<(xs.length:Int)) (hcs:(cS (Go.Proofs.YtdlhidjphaaklaaGreatW.PrintWords.rdOf ByteArray.empty xs i)).length=sz) (k:K (.ref (cS (Go.Proofs.YtdlhidjphaaklaaGreatW.PrintWords.rdOf ByteArray.empty xs i)))):One P_ { dst:=dd,op:=.indexAddr ty y z,type:=tp,pos:=ps,after:=af,guard:=gg } c b K:=s_indexm hy hz h0 h1 hcs k
mutual
def n25:P.S25→List AV
 |⟨x0,x1,x2,x3,x4⟩=>[.val (.int .i64 x0),.val (.int .i64 x1),.val (.string x2),.row (x3.map cS) .no,.row (L25 x4) .no]
def L25:List P.S25→List (List AV)
 |[]=>[]
 |x::r=>n25 x::L25 r
end
def c25 (x:P.S25):List AV:=[.val (.int .i64 x.f0),.val (.int .i64 x.f1),.val (.string x.f2),.row (x.f3.map cS) .no,.row (L25 x.f4) .no]
theorem n25_eq (x:P.S25):n25 x=c25 x:=by cases x; rfl
theorem L25_eq:∀ l:List P.S25,L25 l=l.map c25
 |[]=>rfl
 |x::r=>by show n25 x::L25 r=_; rw [n25_eq,L25_eq r]; rfl
theorem c25_eq (x:P.S25):c25 x=[.val (.int .i64 x.f0),.val (.int .i64 x.f1),.val (.string x.f2),.row (x.f3.map cS) .no,.row (x.f4.map c25) .no]:=by rw [← L25_eq]; rfl
theorem ka25_fl (x:P.S25):∀ y ∈ c25 x,flat y=true:=fun y hy=>by
 rw [c25_eq] at hy
 simp only [List.mem_cons,List.not_mem_nil,or_false] at hy
 rcases hy with rfl|rfl|rfl|rfl|rfl<;>rfl
mutual
def n32:P.S32→List AV
 |⟨x0,x1,x2,x3,x4⟩=>[.val (.int .i64 x0),.val (.int .i64 x1),.val (.string x2),.row (x3.map cS) .no,.row (L32 x4) .no]
def L32:List P.S32→List (List AV)
 |[]=>[]
 |x::r=>n32 x::L32 r
end
def c32 (x:P.S32):List AV:=[.val (.int .i64 x.f0),.val (.int .i64 x.f1),.val (.string x.f2),.row (x.f3.map cS) .no,.row (L32 x.f4) .no]
theorem n32_eq (x:P.S32):n32 x=c32 x:=by cases x; rfl
theorem L32_eq:∀ l:List P.S32,L32 l=l.map c32
 |[]=>rfl
 |x::r=>by show n32 x::L32 r=_; rw [n32_eq,L32_eq r]; rfl
instance:Zf P.S32:=⟨P.z32⟩
theorem s_ix32 {P_:Program} {c:List (Nat × AV)} {b:List (List AV)} {K:AV→Prop} {dd:Option Nat} {tp:TypeId} {ps:String} {af:Array Edge} {gg:Option (Nat × Bool)} {ty:TypeId} {y z:Operand} {k':IntKind} {i:Int} {e:TypeId} {sz bytes:Nat} {xs:List P.S32} {tag:Tag} (hy:ev c y=some (.row (xs.map c32) tag)) (hz:ev c z=some (.val (.int k' i))) [hT:SlA P_ ty e sz bytes] (h0:0≤i) (h1:i<(xs.length:Int)) (hcs:(c32 (P.rd_T32 xs i)).length=sz) (k:K (.ref (c32 (P.rd_T32 xs i)))):One P_ { dst:=dd,op:=.indexAddr ty y z,type:=tp,pos:=ps,after:=af,guard:=gg } c b K:=s_indexm hy hz h0 h1 hcs k
theorem ind32 {p:P.S32→Prop} (h:∀ a,(∀ x ∈ a.f4,p x)→p a) (a:P.S32):p a:=by
 have key:∀ n,∀ a:P.S32,SizeOf.sizeOf a≤n→p a:=by
  intro n
  induction n with
  |zero=>intro a ha; exfalso; obtain ⟨f0,f1,f2,f3,f4⟩:=a; simp only [P.S32.mk.sizeOf_spec] at ha; omega
  |succ n ih =>
   intro a ha
   refine h a (fun x hx=>ih x ?_)
   obtain ⟨f0,f1,f2,f3,f4⟩:=a
   have hx':x ∈ f4:=hx
   have:=List.sizeOf_lt_of_mem hx'
   simp only [P.S32.mk.sizeOf_spec] at ha
   omega
 exact key _ a (Nat.le_refl _)
theorem c32_eq (x:P.S32):c32 x=[.val (.int .i64 x.f0),.val (.int .i64 x.f1),.val (.string x.f2),.row (x.f3.map cS) .no,.row (x.f4.map c32) .no]:=by rw [← L32_eq]; rfl
theorem ka32_fl (x:P.S32):∀ y ∈ c32 x,flat y=true:=fun y hy=>by
 rw [c32_eq] at hy
 simp only [List.mem_cons,List.not_mem_nil,or_false] at hy
 rcases hy with rfl|rfl|rfl|rfl|rfl<;>rfl
theorem ka32_to {w:World} (gs:List (Option Nat)) (x:P.S32):∀ cs,P.k32.K w x cs→Reps (fun b _=>b<w.heap.size) gs w (c32 x) cs:=by
 refine ind32 (p:=fun x=>∀ cs,P.k32.K w x cs→Reps (fun b _=>b<w.heap.size) gs w (c32 x) cs) (fun x ih cs h=>?_) x
 obtain ⟨A3,m3,A4,m4,rfl,l3,g3,l4,g4⟩:=P.k32_open h
 rw [c32_eq]
 exact reps_cons_mk (.val _ rfl) (reps_cons_mk (.val _ rfl) (reps_cons_mk (.val _ rfl) (reps_cons_mk (row_to gs (by decide) ka_string.len ka_string.fl (fun x _ cs hx=>ka_string.fwd gs hx) g3 l3) (reps_cons_mk (row_to gs (by decide) (fun _=>rfl) ka32_fl (fun x hx cs hk=>ih x hx cs hk) g4 l4) reps_nil_mk))))
theorem ka32_of {F:Nat→Nat→Prop} {gs:List (Option Nat)} {w:World} (x:P.S32):∀ cs,Reps F gs w (c32 x) cs→P.k32.K w x cs:=by
 refine ind32 (p:=fun x=>∀ cs,Reps F gs w (c32 x) cs→P.k32.K w x cs) (fun x ih cs h=>?_) x
 rw [c32_eq] at h
 obtain ⟨v0,w0,rfl,r0,h⟩:=reps_cons h
 obtain ⟨v1,w1,rfl,r1,h⟩:=reps_cons h
 obtain ⟨v2,w2,rfl,r2,h⟩:=reps_cons h
 obtain ⟨v3,w3,rfl,r3,h⟩:=reps_cons h
 obtain ⟨v4,w4,rfl,r4,h⟩:=reps_cons h
 obtain rfl:=reps_nil h
 obtain rfl:=(rep_val r0).1
 obtain rfl:=(rep_val r1).1
 obtain rfl:=(rep_val r2).1
 obtain ⟨A3,m3,rfl,l3,g3⟩:=row_of ka_string.len (fun x _ cs h=>ka_string.of h) r3
 obtain ⟨A4,m4,rfl,l4,g4⟩:=row_of (d:=P.k32) (fun _=>rfl) (fun x hx cs h=>ih x hx cs h) r4
 exact P.k32_mk w x l3 g3 l4 g4
theorem ka32_mk {w:World} {base:Nat} (gs:List (Option Nat)) (x:P.S32):∀ cs ok,P.k32.M w base ok x cs→Reps (fun b _=>base≤b∧b<w.heap.size) gs w (c32 x) cs:=by
 refine ind32 (p:=fun x=>∀ cs ok,P.k32.M w base ok x cs→Reps (fun b _=>base≤b∧b<w.heap.size) gs w (c32 x) cs) (fun x ih cs ok h=>?_) x
 obtain ⟨v3,v4,rfl,g3,g4⟩:=P.k32_openM h
 rw [c32_eq]
 exact reps_cons_mk (.val _ rfl) (reps_cons_mk (.val _ rfl) (reps_cons_mk (.val _ rfl) (reps_cons_mk (row_mk gs (by decide) ka_string.len ka_string.fl (fun x _ cs ok' hx=>ka_string.made gs hx) g3) (reps_cons_mk (row_mk gs (by decide) (fun _=>rfl) ka32_fl (fun x hx cs ok' hk=>ih x hx cs ok' hk) g4) reps_nil_mk))))
theorem ka32:KA P.k32 c32 where
 fwd:=fun gs h=>ka32_to gs _ _ h
 of:=fun h=>ka32_of _ _ h
 made:=fun gs h=>ka32_mk gs _ _ _ h
 len:=fun _=>rfl
 fl:=ka32_fl
def c61 (x:P.S61):List AV:=[.val (.string x.f0),.val (.int .i64 x.f1),.val (.int .i64 x.f2)]
instance:Zf P.S61:=⟨P.z61⟩
theorem s_ix61 {P_:Program} {c:List (Nat × AV)} {b:List (List AV)} {K:AV→Prop} {dd:Option Nat} {tp:TypeId} {ps:String} {af:Array Edge} {gg:Option (Nat × Bool)} {ty:TypeId} {y z:Operand} {k':IntKind} {i:Int} {e:TypeId} {sz bytes:Nat} {xs:List P.S61} {tag:Tag} (hy:ev c y=some (.row (xs.map c61) tag)) (hz:ev c z=some (.val (.int k' i))) [hT:SlA P_ ty e sz bytes] (h0:0≤i) (h1:i<(xs.length:Int)) (hcs:(c61 (P.rd_T61 xs i)).length=sz) (k:K (.ref (c61 (P.rd_T61 xs i)))):One P_ { dst:=dd,op:=.indexAddr ty y z,type:=tp,pos:=ps,after:=af,guard:=gg } c b K:=s_indexm hy hz h0 h1 hcs k
theorem ka61:KA P.k61 c61:=ka_iso (ka_pair ka_string (ka_pair (ka_int .i64) (ka_int .i64))) (fun x:P.S61=>(x.f0,x.f1,x.f2))
def c113 (x:P.S113):List AV:=[.val (.string x.f0),.val (.int .i64 x.f1),.val (.int .i64 x.f2)]
instance:Zf P.S113:=⟨P.z113⟩
theorem s_ix113 {P_:Program} {c:List (Nat × AV)} {b:List (List AV)} {K:AV→Prop} {dd:Option Nat} {tp:TypeId} {ps:String} {af:Array Edge} {gg:Option (Nat × Bool)} {ty:TypeId} {y z:Operand} {k':IntKind} {i:Int} {e:TypeId} {sz bytes:Nat} {xs:List P.S113} {tag:Tag} (hy:ev c y=some (.row (xs.map c113) tag)) (hz:ev c z=some (.val (.int k' i))) [hT:SlA P_ ty e sz bytes] (h0:0≤i) (h1:i<(xs.length:Int)) (hcs:(c113 (P.rd_T113 xs i)).length=sz) (k:K (.ref (c113 (P.rd_T113 xs i)))):One P_ { dst:=dd,op:=.indexAddr ty y z,type:=tp,pos:=ps,after:=af,guard:=gg } c b K:=s_indexm hy hz h0 h1 hcs k
theorem ka113:KA P.k113 c113:=ka_iso (ka_pair ka_string (ka_pair (ka_int .i64) (ka_int .i64))) (fun x:P.S113=>(x.f0,x.f1,x.f2))
def c116 (x:P.S116):List AV:=[.val (.string x.f0),.val (.string x.f1)]
instance:Zf P.S116:=⟨P.z116⟩
theorem s_ix116 {P_:Program} {c:List (Nat × AV)} {b:List (List AV)} {K:AV→Prop} {dd:Option Nat} {tp:TypeId} {ps:String} {af:Array Edge} {gg:Option (Nat × Bool)} {ty:TypeId} {y z:Operand} {k':IntKind} {i:Int} {e:TypeId} {sz bytes:Nat} {xs:List P.S116} {tag:Tag} (hy:ev c y=some (.row (xs.map c116) tag)) (hz:ev c z=some (.val (.int k' i))) [hT:SlA P_ ty e sz bytes] (h0:0≤i) (h1:i<(xs.length:Int)) (hcs:(c116 (P.rd_T116 xs i)).length=sz) (k:K (.ref (c116 (P.rd_T116 xs i)))):One P_ { dst:=dd,op:=.indexAddr ty y z,type:=tp,pos:=ps,after:=af,guard:=gg } c b K:=s_indexm hy hz h0 h1 hcs k
theorem ka116:KA P.k116 c116:=ka_iso (ka_pair ka_string ka_string) (fun x:P.S116=>(x.f0,x.f1))
def c124 (x:P.S124):List AV:=[.val (.string x.f0),.val (.string x.f1)]
instance:Zf P.S124:=⟨P.z124⟩
theorem s_ix124 {P_:Program} {c:List (Nat × AV)} {b:List (List AV)} {K:AV→Prop} {dd:Option Nat} {tp:TypeId} {ps:String} {af:Array Edge} {gg:Option (Nat × Bool)} {ty:TypeId} {y z:Operand} {k':IntKind} {i:Int} {e:TypeId} {sz bytes:Nat} {xs:List P.S124} {tag:Tag} (hy:ev c y=some (.row (xs.map c124) tag)) (hz:ev c z=some (.val (.int k' i))) [hT:SlA P_ ty e sz bytes] (h0:0≤i) (h1:i<(xs.length:Int)) (hcs:(c124 (P.rd_T124 xs i)).length=sz) (k:K (.ref (c124 (P.rd_T124 xs i)))):One P_ { dst:=dd,op:=.indexAddr ty y z,type:=tp,pos:=ps,after:=af,guard:=gg } c b K:=s_indexm hy hz h0 h1 hcs k
theorem ka124:KA P.k124 c124:=ka_iso (ka_pair ka_string ka_string) (fun x:P.S124=>(x.f0,x.f1))
end Go.Proofs.YtdlhidjphaaklaaGreat.V
end
section
namespace Go.Proofs.YtdlhidjphaaklaaGreat.H
open Go.RowKit Go.Proofs.YtdlhidjphaaklaaGreat.P Go.Proofs.YtdlhidjphaaklaaGreatW.PrintWords
def FirstAt (l:List ByteArray) (x:ByteArray) (i:Nat):Prop:=i<l.length∧l.getD i ByteArray.empty=x∧∀ j,j<i→l.getD j ByteArray.empty ≠ x
theorem first_or (l:List ByteArray) (x:ByteArray):(∃ i,FirstAt l x i) ∨ ∀ j,j<l.length→l.getD j ByteArray.empty ≠ x:=by
  by_cases h:∃ i,i<l.length∧l.getD i ByteArray.empty=x
  · refine .inl ?_
    obtain ⟨i,hi⟩:=h
    induction i using Nat.strongRecOn with
    | _ i ih =>
      by_cases h2:∃ j,j<i∧l.getD j ByteArray.empty=x
      · obtain ⟨j, hj, e⟩ := h2
        exact ih j hj ⟨by omega,e⟩
      · exact ⟨i,hi.1,hi.2,fun j hj e=>h2 ⟨j,hj,e⟩⟩
  · exact .inr (fun j hj e=>h ⟨j,hj,e⟩)
noncomputable def kAt (l:List ByteArray) (x:ByteArray):Option Nat:=@dite _ (∃ i,FirstAt l x i) (Classical.propDecidable _) (fun h=>some h.choose) (fun _=>none)
theorem kAt_some {l:List ByteArray} {x:ByteArray} {i:Nat} (h:kAt l x=some i):FirstAt l x i:=by
  unfold kAt at h
  split at h
  · rename_i h2
    obtain rfl:=Option.some.inj h
    exact h2.choose_spec
  · cases h
theorem kAt_none {l:List ByteArray} {x:ByteArray} (h:kAt l x=none):∀ j,j<l.length→l.getD j ByteArray.empty ≠ x:=by
  unfold kAt at h
  split at h
  · cases h
  · rename_i h2
    exact (first_or l x).resolve_left h2
theorem first_one {l:List ByteArray} {x:ByteArray} {i j:Nat} (h:FirstAt l x i) (k:FirstAt l x j):i=j:=by
  rcases Nat.lt_trichotomy i j with hlt | e | hlt
  · exact absurd h.2.1 (k.2.2 i hlt)
  · exact e
  · exact absurd k.2.1 (h.2.2 j hlt)
theorem kAt_eq {l:List ByteArray} {x:ByteArray} {i:Nat} (h:FirstAt l x i):kAt l x=some i:=by
  cases e:kAt l x with
  | none=>exact absurd h.2.1 (kAt_none e i h.1)
  | some j=>rw [first_one (kAt_some e) h]
theorem kAt_miss {l:List ByteArray} {x:ByteArray} (h:∀ j,j<l.length→l.getD j ByteArray.empty ≠ x):kAt l x=none:=by
  cases e:kAt l x with
  | none=>rfl
  | some j=>exact absurd (kAt_some e).2.1 (h j (kAt_some e).1)
def node0:S32:=⟨0,0,⟨#[]⟩,[],[]⟩
noncomputable def getK (x:S32) (key:ByteArray):Option S32:=if x.f0=5 then (kAt x.f3 key).bind fun i=>x.f4[i]? else none
def cntK : S32 → Nat
  | ⟨_,_,_,ks,kids⟩=>3 + ks.length + (kids.attach.map fun x=>cntK x.1).sum
termination_by x=>SizeOf.sizeOf x
decreasing_by
  have:=List.sizeOf_lt_of_mem x.2
  simp only [S32.mk.sizeOf_spec]
  omega
theorem cntK_eq (a:S32):cntK a=3 + a.f3.length + (a.f4.map cntK).sum:=by
  obtain ⟨f0,f1,f2,f3,f4⟩:=a
  rw [cntK]
  congr 1
  simp
def cntTop (x:S32):Nat:=x.f3.length + (x.f4.map cntK).sum
def aboveB (key s:ByteArray):Bool:=!(Op.bytesLess s.toList key.toList || s.toList == key.toList)
def insAt (l:List ByteArray) (key:ByteArray):Nat:=l.findIdx (aboveB key)
noncomputable def setV (x:S32) (key:ByteArray) (y:S32):S32 :=
  if x.f0=5∧x.f3.length=x.f4.length then (match kAt x.f3 key with
    | some i=>⟨x.f0,x.f1,x.f2,x.f3,x.f4.set i y⟩
    | none=>⟨x.f0,x.f1,x.f2,x.f3.take (insAt x.f3 key) ++ key :: x.f3.drop (insAt x.f3 key),x.f4.take (insAt x.f3 key) ++ y :: x.f4.drop (insAt x.f3 key)⟩) else x
end Go.Proofs.YtdlhidjphaaklaaGreat.H
end
section
namespace Go.Proofs.YtdlhidjphaaklaaGreat.P
open Go.RowKit Go.Proofs.YtdlhidjphaaklaaGreatW.PrintWords Go.Proofs.YtdlhidjphaaklaaGreatW.PrintLast Go.Proofs.YtdlhidjphaaklaaGreatW.PrintMore
noncomputable section
def impl_from.f (a0:Int) (a1:Int) (a2:Int):Option (Bool):=if a0 ≥ a1 then (some (decide (a0≤a2))) else (some false)
def impl_isDigit.f (a0:Int):Option (Bool):=if a0 ≥ 48 then (some (decide (a0≤57))) else (some false)
def impl_NameOk.l0:Nat→ByteArray→Int→Int→Option (Bool)
 |0,_,_,_=>none
 |k+1,x0,x6,x7=>if x7<x6 then (if 0≤x7 then (if x7<(x0.size:Int) then (if (bt x0 x7) ≥ 97 then (if ((bt x0 x7)≤122) then (impl_NameOk.l0 k x0 x6 (wrap64 (x7+1))) else (if x7=0 then (some false) else ((impl_isDigit.f (bt x0 x7)).bind fun t344=>(if t344=true then (impl_NameOk.l0 k x0 x6 (wrap64 (x7+1))) else (if (bt x0 x7)=45 then (impl_NameOk.l0 k x0 x6 (wrap64 (x7+1))) else (some false)))))) else (if x7=0 then (some false) else ((impl_isDigit.f (bt x0 x7)).bind fun t345=>(if t345=true then (impl_NameOk.l0 k x0 x6 (wrap64 (x7+1))) else (if (bt x0 x7)=45 then (impl_NameOk.l0 k x0 x6 (wrap64 (x7+1))) else (some false)))))) else (none)) else (none)) else ((impl_from.f (x0.size:Int) 1 20).bind fun t346=>(some t346))
def impl_NameOk.f (k:Nat) (a0:ByteArray):Option (Bool):=impl_NameOk.l0 k a0 (a0.size:Int) 0
theorem impl_NameOk.mono_l:∀ k,(∀ y0 y1 y2,LeO (impl_NameOk.l0 k y0 y1 y2) (impl_NameOk.l0 (k+1) y0 y1 y2))
 |0=>fun _ _ _ r h=>by simp [impl_NameOk.l0] at h
 |k+1=>by
  have ih0:=impl_NameOk.mono_l k
  ·intro y0 y1 y2
   unfold impl_NameOk.l0
   repeat' first
   |(with_reducible exact ih0 _ _ _)
   |(with_reducible exact LeO.refl _)
   |(with_reducible exact LeO.none _)
   |(with_reducible refine LeO.ite ?_ ?_)
   |(with_reducible refine LeO.bind ?_ (fun _=>?_))
   |exact ih0 _ _ _
   |exact LeO.none _
   |refine LeO.ite ?_ ?_
   |refine LeO.bind ?_ (fun _=>?_)
def impl_MetricOk.f (k:Nat) (a0_0:ByteArray) (a0_1:Int) (a0_2:Int):Option (Bool):=(impl_NameOk.f k a0_0).bind fun t820=>(if t820=true then ((impl_from.f a0_1 1 3).bind fun t821=>(if t821=true then ((impl_from.f a0_2 1 1000000).bind fun t822=>(some t822)) else (some false))) else (some false))
def impl_isMany.f (a0:Int):Option (Bool):=(impl_from.f a0 0 1000).bind fun t823=>(some t823)
def impl_PaceOk.f (a0_0:Int) (a0_1:Int) (a0_2:Int) (a0_3:Int):Option (Bool):=(impl_isMany.f a0_0).bind fun t825=>(if t825=true then ((impl_isMany.f a0_1).bind fun t826=>(if t826=true then ((impl_from.f a0_2 0 3600).bind fun t827=>(if t827=true then ((impl_from.f a0_3 0 3600).bind fun t828=>(some t828)) else (some false))) else (some false))) else (some false))
def impl_isLetter.f (a0:Int):Option (Bool):=if a0 ≥ 97 then (if a0≤122 then (some true) else (if a0 ≥ 65 then (some (decide (a0≤90))) else (some false))) else (if a0 ≥ 65 then (some (decide (a0≤90))) else (some false))
def strings_IndexByte.f (a0:ByteArray) (a1:Int):Option (Int):=some (Lib.indexByte a0.data.toList a1.toNat.toUInt8)
def impl_PlainOk.l0:Nat→ByteArray→Int→Int→Option (Bool)
 |0,_,_,_=>none
 |k+1,x0,x5,x6=>if x6<x5 then (if 0≤x6 then (if x6<(x0.size:Int) then ((impl_isLetter.f (bt x0 x6)).bind fun t830=>(if t830=true then (impl_PlainOk.l0 k x0 x5 (wrap64 (x6+1))) else (if x6=0 then (some false) else ((impl_isDigit.f (bt x0 x6)).bind fun t831=>(if t831=true then (impl_PlainOk.l0 k x0 x5 (wrap64 (x6+1))) else ((strings_IndexByte.f (⟨#[95,46,47,45]⟩:ByteArray) (bt x0 x6)).bind fun t832=>(if t832<0 then (some false) else (impl_PlainOk.l0 k x0 x5 (wrap64 (x6+1)))))))))) else (none)) else (none)) else ((impl_from.f (x0.size:Int) 1 60).bind fun t829=>(if t829=true then (if x0.toList=([110,117,108,108]:List UInt8) then (some false) else (if x0.toList=([116,114,117,101]:List UInt8) then (some false) else (some (x0.toList != ([102,97,108,115,101]:List UInt8))))) else (some false)))
def impl_PlainOk.f (k:Nat) (a0:ByteArray):Option (Bool):=impl_PlainOk.l0 k a0 (a0.size:Int) 0
def impl_TextOk.l0:Nat→ByteArray→Int→Int→Option (Bool)
 |0,_,_,_=>none
 |k+1,x0,x5,x6=>if x6<x5 then (if 0≤x6 then (if x6<(x0.size:Int) then ((impl_from.f (wrap64 (bt x0 x6)) 32 126).bind fun t306=>(if t306=true then (impl_TextOk.l0 k x0 x5 (wrap64 (x6+1))) else (some false))) else (none)) else (none)) else (some (decide ((x0.size:Int)≤400)))
def impl_TextOk.f (k:Nat) (a0:ByteArray):Option (Bool):=impl_TextOk.l0 k a0 (a0.size:Int) 0
def stringslite_HasPrefix.f (a0:ByteArray) (a1:ByteArray):Option (Bool):=if (a0.size:Int) ≥ (a1.size:Int) then (if 0≤(a1.size:Int) then (if (a1.size:Int)≤(a0.size:Int) then (some ((a0.extract 0 ((a1.size:Int):Int).toNat).toList == a1.toList)) else (none)) else (none)) else (some false)
def strings_HasPrefix.f (a0:ByteArray) (a1:ByteArray):Option (Bool):=(stringslite_HasPrefix.f a0 a1).bind fun t833=>(some t833)
def impl_notesOk.l0:Nat→List (S124)→List (S124)→Int→Int→Option (Bool)
 |0,_,_,_,_=>none
 |k+1,x0,x5,x6,x7=>if x7<x6 then (if 0≤x7 then (if x7<(x5.length:Int) then ((impl_PlainOk.f k ((rd_T124 x5 x7).f0)).bind fun t836=>(if t836=true then ((strings_HasPrefix.f ((rd_T124 x5 x7).f0) (⟨#[113,117,97,121,47]⟩:ByteArray)).bind fun t837=>(if t837=true then (some false) else ((impl_TextOk.f k ((rd_T124 x5 x7).f1)).bind fun t838=>(if t838=true then (if (((rd_T124 x5 x7).f1).size:Int) > 40 then (some false) else (if x7 > 0 then (if 0≤(wrap64 (x7-1)) then (if (wrap64 (x7-1))<(x0.length:Int) then (if ((Op.bytesLess (((rd_T124 x0 (wrap64 (x7-1))).f0).toList) (((rd_T124 x5 x7).f0).toList))=true) then (impl_notesOk.l0 k x0 x5 x6 (wrap64 (x7+1))) else (some false)) else (none)) else (none)) else (impl_notesOk.l0 k x0 x5 x6 (wrap64 (x7+1))))) else (some false))))) else (some false))) else (none)) else (none)) else (some (decide ((x0.length:Int)≤4)))
def impl_notesOk.f (k:Nat) (l0:List (S124)):Option (Bool):=impl_notesOk.l0 k l0 l0 (l0.length:Int) 0
def impl_OrderOk.l0:Nat→List (S61)→Int→Int→ByteArray→ByteArray→Int→Int→List (S61)→Int→Int→Int→Int→List (S124)→Option (Bool)
 |0,_,_,_,_,_,_,_,_,_,_,_,_,_=>none
 |k+1,x6,x7,x8,x841000,x841001,x841002,x841003,x841004,x841005,x841006,x841007,x841008,x841009=>if x8<x7 then (if 0≤x8 then (if x8<(x6.length:Int) then ((impl_MetricOk.f k ((rd_T61 x6 x8).f0) ((rd_T61 x6 x8).f1) ((rd_T61 x6 x8).f2)).bind fun t843=>(if t843=true then (if x8 > 0 then (if 0≤(wrap64 (x8-1)) then (if (wrap64 (x8-1))<(x841004.length:Int) then (if ((Op.bytesLess (((rd_T61 x841004 (wrap64 (x8-1))).f0).toList) (((rd_T61 x6 x8).f0).toList))=true) then (impl_OrderOk.l0 k x6 x7 (wrap64 (x8+1)) x841000 x841001 x841002 x841003 x841004 x841005 x841006 x841007 x841008 x841009) else (some false)) else (none)) else (none)) else (impl_OrderOk.l0 k x6 x7 (wrap64 (x8+1)) x841000 x841001 x841002 x841003 x841004 x841005 x841006 x841007 x841008 x841009)) else (some false))) else (none)) else (none)) else ((impl_NameOk.f k x841000).bind fun t845=>(if t845=true then ((impl_NameOk.f k x841001).bind fun t846=>(if t846=true then ((impl_from.f x841002 1 x841003).bind fun t847=>(if t847=true then (if x841003≤1000 then (if (x841004.length:Int)≤4 then ((impl_PaceOk.f x841005 x841006 x841007 x841008).bind fun t848=>(if t848=true then ((impl_notesOk.f k x841009).bind fun t849=>(some t849)) else (some false))) else (some false)) else (some false)) else (some false))) else (some false))) else (some false)))
def impl_OrderOk.f (k:Nat) (a0_0:ByteArray) (a0_1:ByteArray) (a0_2:Int) (a0_3:Int) (l0_4:List (S61)) (a0_5:Int) (a0_6:Int) (a0_7:Int) (a0_8:Int) (l0_9:List (S124)):Option (Bool):=impl_OrderOk.l0 k l0_4 (l0_4.length:Int) 0 a0_0 a0_1 a0_2 a0_3 l0_4 a0_5 a0_6 a0_7 a0_8 l0_9
def impl_IntOf.f (a0:Int):Option (Int × Int × ByteArray × List ByteArray × (List (S32))):=some (2,a0,(⟨#[]⟩:ByteArray),([]:List ByteArray),([]:List (S32)))
mutual
def impl_Digits.j0:Nat→Int→Bool→Option (ByteArray)
 |0,_,_=>none
 |k+1,x0,x3=>if x3=true then ((impl_Digits.f k (wrap64 (-x0))).bind fun t322=>(if 1+t322.size≤9223372036854775807 then (some ((⟨#[45]⟩:ByteArray) ++ t322)) else (none))) else (if x0<0 then ((impl_Digits.f k (wrap64 (Int.tdiv x0 10))).bind fun t323=>((impl_Digits.f k (wrap64 (-(Int.tmod x0 10)))).bind fun t324=>(if t323.size+t324.size≤9223372036854775807 then (some (t323 ++ t324)) else (none)))) else (if x0<10 then (some (Utf8.encode (wrap32 (wrap64 (48+x0))))) else ((impl_Digits.f k (wrap64 (Int.tdiv x0 10))).bind fun t325=>(if t325.size+(Utf8.encode (wrap32 (wrap64 (48+(Int.tmod x0 10))))).size≤9223372036854775807 then (some (t325 ++ (Utf8.encode (wrap32 (wrap64 (48+(Int.tmod x0 10))))))) else (none)))))
def impl_Digits.f:Nat→Int→Option (ByteArray)
 |0,_=>none
 |k+1,a0=>if a0<0 then (impl_Digits.j0 k a0 (decide (a0 > (-10)))) else (impl_Digits.j0 k a0 false)
end
mutual
def impl_SpanText.j0:Nat→Int→Bool→Option (ByteArray)
 |0,_,_=>none
 |k+1,x0,x7=>if x7=true then ((impl_Digits.f k (wrap64 (Int.tdiv x0 3600))).bind fun t995=>(if t995.size+1≤9223372036854775807 then (some (t995 ++ (⟨#[104]⟩:ByteArray))) else (none))) else (if x0=0 then (impl_SpanText.j1 k x0 false) else (impl_SpanText.j1 k x0 ((Int.tmod x0 60) == 0)))
def impl_SpanText.j1:Nat→Int→Bool→Option (ByteArray)
 |0,_,_=>none
 |k+1,x0,x19=>if x19=true then ((impl_Digits.f k (wrap64 (Int.tdiv x0 60))).bind fun t996=>(if t996.size+1≤9223372036854775807 then (some (t996 ++ (⟨#[109]⟩:ByteArray))) else (none))) else ((impl_Digits.f k x0).bind fun t997=>(if t997.size+1≤9223372036854775807 then (some (t997 ++ (⟨#[115]⟩:ByteArray))) else (none)))
end
def impl_SpanText.f (k:Nat) (a0:Int):Option (ByteArray):=(impl_from.f a0 0 1000000).bind fun t994=>(if t994=true then (if a0=0 then (impl_SpanText.j0 k a0 false) else (impl_SpanText.j0 k a0 ((Int.tmod a0 3600) == 0))) else (some (⟨#[]⟩:ByteArray)))
def impl_TextOf.f (a0:ByteArray):Option (Int × Int × ByteArray × List ByteArray × (List (S32))):=some (3,0,a0,([]:List ByteArray),([]:List (S32)))
noncomputable def impl_Set.f (a0_0 a0_1:Int) (a0_2:ByteArray) (l0_3:List ByteArray) (l0_4:List S32) (a1:ByteArray) (a2_0 a2_1:Int) (a2_2:ByteArray) (l2_3:List ByteArray) (l2_4:List S32):Option (Int × Int × ByteArray × List ByteArray × List S32) :=
 if H.cntTop ⟨a0_0,a0_1,a0_2,l0_3,l0_4⟩≤1099511627776∧H.cntTop ⟨a2_0,a2_1,a2_2,l2_3,l2_4⟩≤1099511627776 then some ((H.setV ⟨a0_0,a0_1,a0_2,l0_3,l0_4⟩ a1 ⟨a2_0,a2_1,a2_2,l2_3,l2_4⟩).f0,(H.setV ⟨a0_0,a0_1,a0_2,l0_3,l0_4⟩ a1 ⟨a2_0,a2_1,a2_2,l2_3,l2_4⟩).f1,(H.setV ⟨a0_0,a0_1,a0_2,l0_3,l0_4⟩ a1 ⟨a2_0,a2_1,a2_2,l2_3,l2_4⟩).f2,(H.setV ⟨a0_0,a0_1,a0_2,l0_3,l0_4⟩ a1 ⟨a2_0,a2_1,a2_2,l2_3,l2_4⟩).f3,(H.setV ⟨a0_0,a0_1,a0_2,l0_3,l0_4⟩ a1 ⟨a2_0,a2_1,a2_2,l2_3,l2_4⟩).f4) else none
def impl_mapOf.l0:Nat→List (S32)→List ByteArray→Int→Int→Int→Int→ByteArray→List ByteArray→List (S32)→Option (Int × Int × ByteArray × List ByteArray × (List (S32)))
 |0,_,_,_,_,_,_,_,_,_=>none
 |k+1,x1,x9,x10,x11,x854000,x854001,x854002,x854003,x854004=>if x11<x10 then (if 0≤x11 then (if x11<(x9.length:Int) then (if x11<(x1.length:Int) then ((impl_Set.f x854000 x854001 x854002 x854003 x854004 (rdOf ByteArray.empty x9 x11) ((rd_T32 x1 x11).f0) ((rd_T32 x1 x11).f1) ((rd_T32 x1 x11).f2) ((rd_T32 x1 x11).f3) ((rd_T32 x1 x11).f4)).bind fun bt856=>(impl_mapOf.l0 k x1 x9 x10 (wrap64 (x11+1)) bt856.1 bt856.2.1 bt856.2.2.1 bt856.2.2.2.1 bt856.2.2.2.2)) else (none)) else (none)) else (none)) else (some (x854000,x854001,x854002,x854003,x854004))
def impl_mapOf.f (k:Nat) (l0:List ByteArray) (l1:List (S32)):Option (Int × Int × ByteArray × List ByteArray × (List (S32))):=impl_mapOf.l0 k l1 l0 (l0.length:Int) 0 5 0 (⟨#[]⟩:ByteArray) ([]:List ByteArray) ([]:List (S32))
def impl_PaceTree.f (k:Nat) (a0_0:Int) (a0_1:Int) (a0_2:Int) (a0_3:Int):Option (Int × Int × ByteArray × List ByteArray × (List (S32))):=(impl_IntOf.f a0_1).bind fun bt1003=>((impl_IntOf.f a0_0).bind fun bt1012=>((impl_SpanText.f k a0_3).bind fun t1021=>((impl_TextOf.f t1021).bind fun bt1022=>((impl_SpanText.f k a0_2).bind fun t1031=>((impl_TextOf.f t1031).bind fun bt1032=>((impl_mapOf.f k (([(⟨#[100,111,119,110]⟩:ByteArray),(⟨#[117,112]⟩:ByteArray),(⟨#[100,111,119,110,115,112,97,110]⟩:ByteArray),(⟨#[117,112,115,112,97,110]⟩:ByteArray)]:List ByteArray)) (([(⟨bt1003.1,bt1003.2.1,bt1003.2.2.1,bt1003.2.2.2.1,bt1003.2.2.2.2⟩:S32),(⟨bt1012.1,bt1012.2.1,bt1012.2.2.1,bt1012.2.2.2.1,bt1012.2.2.2.2⟩:S32),(⟨bt1022.1,bt1022.2.1,bt1022.2.2.1,bt1022.2.2.2.1,bt1022.2.2.2.2⟩:S32),(⟨bt1032.1,bt1032.2.1,bt1032.2.2.1,bt1032.2.2.2.1,bt1032.2.2.2.2⟩:S32)]:List (S32)))).bind fun bt1044=>(some (bt1044.1,bt1044.2.1,bt1044.2.2.1,bt1044.2.2.2.1,bt1044.2.2.2.2))))))))
def impl_commonTree.f (k:Nat) (a0_0:ByteArray) (a0_1:ByteArray) (a0_2:Int) (a0_3:Int) (l0_4:List (S61)) (a0_5:Int) (a0_6:Int) (a0_7:Int) (a0_8:Int) (l0_9:List (S124)) (a1:ByteArray):Option (Int × Int × ByteArray × List ByteArray × (List (S32))):=(impl_TextOf.f a1).bind fun bt870=>((impl_TextOf.f a0_0).bind fun bt879=>((impl_TextOf.f a0_1).bind fun bt888=>((impl_IntOf.f a0_2).bind fun bt897=>((impl_IntOf.f a0_3).bind fun bt906=>((impl_mapOf.f k (([(⟨#[107,105,110,100]⟩:ByteArray),(⟨#[110,97,109,101]⟩:ByteArray),(⟨#[116,97,114,103,101,116]⟩:ByteArray),(⟨#[108,111,119]⟩:ByteArray),(⟨#[104,105,103,104]⟩:ByteArray)]:List ByteArray)) (([(⟨bt870.1,bt870.2.1,bt870.2.2.1,bt870.2.2.2.1,bt870.2.2.2.2⟩:S32),(⟨bt879.1,bt879.2.1,bt879.2.2.1,bt879.2.2.2.1,bt879.2.2.2.2⟩:S32),(⟨bt888.1,bt888.2.1,bt888.2.2.1,bt888.2.2.2.1,bt888.2.2.2.2⟩:S32),(⟨bt897.1,bt897.2.1,bt897.2.2.1,bt897.2.2.2.1,bt897.2.2.2.2⟩:S32),(⟨bt906.1,bt906.2.1,bt906.2.2.1,bt906.2.2.2.1,bt906.2.2.2.2⟩:S32)]:List (S32)))).bind fun bt918=>(some (bt918.1,bt918.2.1,bt918.2.2.1,bt918.2.2.2.1,bt918.2.2.2.2)))))))
def impl_isAmount.f (a0:Int):Option (Bool):=(impl_from.f a0 0 1000000000000).bind fun t927=>(some t927)
def impl_AmountText.j0:Nat→Int→Bool→Option (ByteArray)
 |0,_,_=>none
 |k+1,x0,x7=>if x7=true then ((impl_Digits.f k (wrap64 (Int.tdiv x0 1000000))).bind fun t929=>(if t929.size+1≤9223372036854775807 then (some (t929 ++ (⟨#[107]⟩:ByteArray))) else (none))) else (if (Int.tmod x0 1000)=0 then ((impl_Digits.f k (wrap64 (Int.tdiv x0 1000))).bind fun t930=>(some t930)) else ((impl_Digits.f k x0).bind fun t931=>(if t931.size+1≤9223372036854775807 then (some (t931 ++ (⟨#[109]⟩:ByteArray))) else (none))))
def impl_AmountText.f (k:Nat) (a0:Int):Option (ByteArray):=(impl_isAmount.f a0).bind fun t928=>(if t928=true then (if a0=0 then (impl_AmountText.j0 k a0 false) else (impl_AmountText.j0 k a0 ((Int.tmod a0 1000000) == 0))) else (some (⟨#[]⟩:ByteArray)))
def impl_kindWord.f (a0:Int):Option (ByteArray):=if a0=1 then (some (⟨#[115,104,97,114,101]⟩:ByteArray)) else (if a0=2 then (some (⟨#[109,101,97,110]⟩:ByteArray)) else (if a0=3 then (some (⟨#[119,104,111,108,101]⟩:ByteArray)) else (some (⟨#[110,111,110,101]⟩:ByteArray))))
def impl_MetricTree.f (k:Nat) (a0_0:ByteArray) (a0_1:Int) (a0_2:Int):Option (Int × Int × ByteArray × List ByteArray × (List (S32))):=(impl_TextOf.f a0_0).bind fun bt937=>((impl_kindWord.f a0_1).bind fun t946=>((impl_TextOf.f t946).bind fun bt947=>((impl_AmountText.f k a0_2).bind fun t956=>((impl_TextOf.f t956).bind fun bt957=>((impl_mapOf.f k (([(⟨#[110,97,109,101]⟩:ByteArray),(⟨#[107,105,110,100]⟩:ByteArray),(⟨#[103,111,97,108]⟩:ByteArray)]:List ByteArray)) (([(⟨bt937.1,bt937.2.1,bt937.2.2.1,bt937.2.2.2.1,bt937.2.2.2.2⟩:S32),(⟨bt947.1,bt947.2.1,bt947.2.2.1,bt947.2.2.2.1,bt947.2.2.2.2⟩:S32),(⟨bt957.1,bt957.2.1,bt957.2.2.1,bt957.2.2.2.1,bt957.2.2.2.2⟩:S32)]:List (S32)))).bind fun bt969=>(some (bt969.1,bt969.2.1,bt969.2.2.1,bt969.2.2.2.1,bt969.2.2.2.2)))))))
def impl_metricsTree.l0:Nat→List (S61)→Int→Int→Int→Int→ByteArray→List (S32)→Option (Int × Int × ByteArray × List ByteArray × (List (S32)))
 |0,_,_,_,_,_,_,_=>none
 |k+1,x7,x8,x9,x980000,x980001,x980002,x980004=>if x9<x8 then (if 0≤x9 then (if x9<(x7.length:Int) then ((impl_MetricTree.f k ((rd_T61 x7 x9).f0) ((rd_T61 x7 x9).f1) ((rd_T61 x7 x9).f2)).bind fun bt982=>(if x980004.length<1759218604441 then (impl_metricsTree.l0 k x7 x8 (wrap64 (x9+1)) x980000 x980001 x980002 (x980004 ++ [(⟨bt982.1,bt982.2.1,bt982.2.2.1,bt982.2.2.2.1,bt982.2.2.2.2⟩:S32)])) else (none))) else (none)) else (none)) else (some (x980000,x980001,x980002,([]:List ByteArray),x980004))
def impl_metricsTree.f (k:Nat) (l0:List (S61)):Option (Int × Int × ByteArray × List ByteArray × (List (S32))):=impl_metricsTree.l0 k l0 (l0.length:Int) 0 4 0 (⟨#[]⟩:ByteArray) ([]:List (S32))
def impl_notesTree.l0:Nat→List (S124)→Int→Int→Int→Int→ByteArray→List ByteArray→List (S32)→Option (Int × Int × ByteArray × List ByteArray × (List (S32)))
 |0,_,_,_,_,_,_,_,_=>none
 |k+1,x7,x8,x9,x1055000,x1055001,x1055002,x1055003,x1055004=>if x9<x8 then (if 0≤x9 then (if x9<(x7.length:Int) then ((impl_TextOf.f ((rd_T124 x7 x9).f1)).bind fun bt1057=>((impl_Set.f x1055000 x1055001 x1055002 x1055003 x1055004 ((rd_T124 x7 x9).f0) bt1057.1 bt1057.2.1 bt1057.2.2.1 bt1057.2.2.2.1 bt1057.2.2.2.2).bind fun bt1066=>(impl_notesTree.l0 k x7 x8 (wrap64 (x9+1)) bt1066.1 bt1066.2.1 bt1066.2.2.1 bt1066.2.2.2.1 bt1066.2.2.2.2))) else (none)) else (none)) else (some (x1055000,x1055001,x1055002,x1055003,x1055004))
def impl_notesTree.f (k:Nat) (l0:List (S124)):Option (Int × Int × ByteArray × List ByteArray × (List (S32))):=impl_notesTree.l0 k l0 (l0.length:Int) 0 5 0 (⟨#[]⟩:ByteArray) ([]:List ByteArray) ([]:List (S32))
def spec_l1In.f (a0:Int) (a1:Int) (a2:Int):Option (Bool):=if a0 ≥ a1 then (some (decide (a0≤a2))) else (some false)
def spec_NameOk.l0:Nat→ByteArray→Int→Option (Bool)
 |0,_,_=>none
 |k+1,x0,x3=>if x3<(x0.size:Int) then (if 0≤x3 then (if (bt x0 x3) ≥ 97 then (if (bt x0 x3)≤122 then (spec_NameOk.l0 k x0 (wrap64 (x3+1))) else (if x3 > 0 then (if (bt x0 x3) ≥ 48 then (if (bt x0 x3)≤57 then (spec_NameOk.l0 k x0 (wrap64 (x3+1))) else (if ((bt x0 x3)=45) then (spec_NameOk.l0 k x0 (wrap64 (x3+1))) else (some false))) else (if ((bt x0 x3)=45) then (spec_NameOk.l0 k x0 (wrap64 (x3+1))) else (some false))) else (some false))) else (if x3 > 0 then (if (bt x0 x3) ≥ 48 then (if (bt x0 x3)≤57 then (spec_NameOk.l0 k x0 (wrap64 (x3+1))) else (if ((bt x0 x3)=45) then (spec_NameOk.l0 k x0 (wrap64 (x3+1))) else (some false))) else (if ((bt x0 x3)=45) then (spec_NameOk.l0 k x0 (wrap64 (x3+1))) else (some false))) else (some false))) else (none)) else ((spec_l1In.f (x0.size:Int) 1 20).bind fun t195=>(some t195))
def spec_NameOk.f (k:Nat) (a0:ByteArray):Option (Bool):=spec_NameOk.l0 k a0 0
def spec_PaceOk.f (a0_0:Int) (a0_1:Int) (a0_2:Int) (a0_3:Int):Option (Bool):=(spec_l1In.f a0_0 0 1000).bind fun t470=>(if t470=true then ((spec_l1In.f a0_1 0 1000).bind fun t471=>(if t471=true then ((spec_l1In.f a0_2 0 3600).bind fun t472=>(if t472=true then ((spec_l1In.f a0_3 0 3600).bind fun t473=>(some t473)) else (some false))) else (some false))) else (some false))
def spec_MetricOk.f (k:Nat) (a0_0:ByteArray) (a0_1:Int) (a0_2:Int):Option (Bool):=(spec_NameOk.f k a0_0).bind fun t462=>(if t462=true then ((spec_l1In.f a0_1 1 3).bind fun t463=>(if t463=true then ((spec_l1In.f a0_2 1 1000000).bind fun t464=>(some t464)) else (some false))) else (some false))
def spec_l6Metrics.l0:Nat→List (S61)→Int→Option (Bool)
 |0,_,_=>none
 |k+1,x0,x3=>if x3<(x0.length:Int) then (if 0≤x3 then ((spec_MetricOk.f k ((rd_T61 x0 x3).f0) ((rd_T61 x0 x3).f1) ((rd_T61 x0 x3).f2)).bind fun t466=>(if t466=true then (if x3 > 0 then (if 0≤(wrap64 (x3-1)) then (if (wrap64 (x3-1))<(x0.length:Int) then (if ((Op.bytesLess (((rd_T61 x0 (wrap64 (x3-1))).f0).toList) (((rd_T61 x0 x3).f0).toList))=true) then (spec_l6Metrics.l0 k x0 (wrap64 (x3+1))) else (some false)) else (none)) else (none)) else (spec_l6Metrics.l0 k x0 (wrap64 (x3+1)))) else (some false))) else (none)) else (some (decide ((x0.length:Int)≤4)))
def spec_l6Metrics.f (k:Nat) (l0:List (S61)):Option (Bool):=spec_l6Metrics.l0 k l0 0
def spec_l5Letter.f (a0:Int):Option (Bool):=if a0 ≥ 97 then (if a0≤122 then (some true) else (if a0 ≥ 65 then (some (decide (a0≤90))) else (some false))) else (if a0 ≥ 65 then (some (decide (a0≤90))) else (some false))
def spec_PlainOk.l0:Nat→ByteArray→Int→Option (Bool)
 |0,_,_=>none
 |k+1,x0,x3=>if x3<(x0.size:Int) then (if 0≤x3 then ((spec_l5Letter.f (bt x0 x3)).bind fun t474=>(if t474=true then (spec_PlainOk.l0 k x0 (wrap64 (x3+1))) else (if x3=0 then (some false) else (if (bt x0 x3) ≥ 48 then (if (bt x0 x3)≤57 then (spec_PlainOk.l0 k x0 (wrap64 (x3+1))) else (if (bt x0 x3)=95 then (spec_PlainOk.l0 k x0 (wrap64 (x3+1))) else (if (bt x0 x3)=46 then (spec_PlainOk.l0 k x0 (wrap64 (x3+1))) else (if (bt x0 x3)=47 then (spec_PlainOk.l0 k x0 (wrap64 (x3+1))) else (if ((bt x0 x3)=45) then (spec_PlainOk.l0 k x0 (wrap64 (x3+1))) else (some false)))))) else (if (bt x0 x3)=95 then (spec_PlainOk.l0 k x0 (wrap64 (x3+1))) else (if (bt x0 x3)=46 then (spec_PlainOk.l0 k x0 (wrap64 (x3+1))) else (if (bt x0 x3)=47 then (spec_PlainOk.l0 k x0 (wrap64 (x3+1))) else (if ((bt x0 x3)=45) then (spec_PlainOk.l0 k x0 (wrap64 (x3+1))) else (some false))))))))) else (none)) else ((spec_l1In.f (x0.size:Int) 1 60).bind fun t475=>(if t475=true then (if x0.toList=([110,117,108,108]:List UInt8) then (some false) else (if x0.toList=([116,114,117,101]:List UInt8) then (some false) else (some (x0.toList != ([102,97,108,115,101]:List UInt8))))) else (some false)))
def spec_PlainOk.f (k:Nat) (a0:ByteArray):Option (Bool):=spec_PlainOk.l0 k a0 0
def spec_TextOk.l0:Nat→ByteArray→Int→Option (Bool)
 |0,_,_=>none
 |k+1,x0,x3=>if x3<(x0.size:Int) then (if 0≤x3 then (if (bt x0 x3)<32 then (some false) else (if (bt x0 x3) > 126 then (some false) else (spec_TextOk.l0 k x0 (wrap64 (x3+1))))) else (none)) else (some (decide ((x0.size:Int)≤400)))
def spec_TextOk.f (k:Nat) (a0:ByteArray):Option (Bool):=spec_TextOk.l0 k a0 0
def spec_l6Ours.f (a0:ByteArray):Option (Bool):=if (a0.size:Int) ≥ 5 then (if 0≤5 then (if 5≤(a0.size:Int) then (some ((a0.extract 0 5).toList == ([113,117,97,121,47]:List UInt8))) else (none)) else (none)) else (some false)
def spec_l6Notes.l0:Nat→List (S124)→Int→Option (Bool)
 |0,_,_=>none
 |k+1,x0,x3=>if x3<(x0.length:Int) then (if 0≤x3 then ((spec_PlainOk.f k ((rd_T124 x0 x3).f0)).bind fun t477=>(if t477=true then ((spec_l6Ours.f ((rd_T124 x0 x3).f0)).bind fun t479=>(if t479=true then (some false) else ((spec_TextOk.f k ((rd_T124 x0 x3).f1)).bind fun t481=>(if t481=true then (if (((rd_T124 x0 x3).f1).size:Int) > 40 then (some false) else (if x3 > 0 then (if 0≤(wrap64 (x3-1)) then (if (wrap64 (x3-1))<(x0.length:Int) then (if ((Op.bytesLess (((rd_T124 x0 (wrap64 (x3-1))).f0).toList) (((rd_T124 x0 x3).f0).toList))=true) then (spec_l6Notes.l0 k x0 (wrap64 (x3+1))) else (some false)) else (none)) else (none)) else (spec_l6Notes.l0 k x0 (wrap64 (x3+1))))) else (some false))))) else (some false))) else (none)) else (some (decide ((x0.length:Int)≤4)))
def spec_l6Notes.f (k:Nat) (l0:List (S124)):Option (Bool):=spec_l6Notes.l0 k l0 0
def spec_OrderOk.f (k:Nat) (a0_0:ByteArray) (a0_1:ByteArray) (a0_2:Int) (a0_3:Int) (l0_4:List (S61)) (a0_5:Int) (a0_6:Int) (a0_7:Int) (a0_8:Int) (l0_9:List (S124)):Option (Bool):=(spec_NameOk.f k a0_0).bind fun t486=>(if t486=true then ((spec_NameOk.f k a0_1).bind fun t487=>(if t487=true then ((spec_l1In.f a0_2 1 a0_3).bind fun t488=>(if t488=true then (if a0_3≤1000 then ((spec_l6Metrics.f k l0_4).bind fun t489=>(if t489=true then ((spec_PaceOk.f a0_5 a0_6 a0_7 a0_8).bind fun t490=>(if t490=true then ((spec_l6Notes.f k l0_9).bind fun t491=>(some t491)) else (some false))) else (some false))) else (some false)) else (some false))) else (some false))) else (some false))
def spec_IntOf.f (a0:Int):Option (Int × Int × ByteArray × List ByteArray × (List (S32))):=some (2,a0,(⟨#[]⟩:ByteArray),([]:List ByteArray),([]:List (S32)))
def spec_Digits.l0:Nat→Int→Bool→ByteArray→Option (ByteArray)
 |0,_,_,_=>none
 |k+1,x0,x3,x4=>if x0=0 then (if x3=true then (if 1+x4.size≤9223372036854775807 then (some ((⟨#[45]⟩:ByteArray) ++ x4)) else (none)) else (some x4)) else (if (Int.tmod x0 10)<0 then ((some (([(wrap64 (48+(wrap64 (-(Int.tmod x0 10))))) % 256]:List Int):List Int)).bind fun y168=>(if (strOfNums y168).size+x4.size≤9223372036854775807 then (spec_Digits.l0 k (wrap64 (Int.tdiv x0 10)) x3 ((strOfNums y168) ++ x4)) else (none))) else ((some (([(wrap64 (48+(Int.tmod x0 10))) % 256]:List Int):List Int)).bind fun y171=>(if (strOfNums y171).size+x4.size≤9223372036854775807 then (spec_Digits.l0 k (wrap64 (Int.tdiv x0 10)) x3 ((strOfNums y171) ++ x4)) else (none))))
def spec_Digits.f (k:Nat) (a0:Int):Option (ByteArray):=if a0=0 then (some (⟨#[48]⟩:ByteArray)) else (spec_Digits.l0 k a0 (decide (a0<0)) (⟨#[]⟩:ByteArray))
mutual
def spec_SpanText.j0:Nat→Int→Bool→Option (ByteArray)
 |0,_,_=>none
 |k+1,x0,x7=>if x7=true then ((spec_Digits.f k (wrap64 (Int.tdiv x0 3600))).bind fun t635=>(if t635.size+1≤9223372036854775807 then (some (t635 ++ (⟨#[104]⟩:ByteArray))) else (none))) else (if x0 > 0 then (spec_SpanText.j1 k x0 ((Int.tmod x0 60) == 0)) else (spec_SpanText.j1 k x0 false))
def spec_SpanText.j1:Nat→Int→Bool→Option (ByteArray)
 |0,_,_=>none
 |k+1,x0,x19=>if x19=true then ((spec_Digits.f k (wrap64 (Int.tdiv x0 60))).bind fun t636=>(if t636.size+1≤9223372036854775807 then (some (t636 ++ (⟨#[109]⟩:ByteArray))) else (none))) else ((spec_Digits.f k x0).bind fun t637=>(if t637.size+1≤9223372036854775807 then (some (t637 ++ (⟨#[115]⟩:ByteArray))) else (none)))
end
def spec_SpanText.f (k:Nat) (a0:Int):Option (ByteArray):=(spec_l1In.f a0 0 1000000).bind fun t634=>(if t634=true then (if a0 > 0 then (spec_SpanText.j0 k a0 ((Int.tmod a0 3600) == 0)) else (spec_SpanText.j0 k a0 false)) else (some (⟨#[]⟩:ByteArray)))
def spec_TextOf.f (a0:ByteArray):Option (Int × Int × ByteArray × List ByteArray × (List (S32))):=some (3,0,a0,([]:List ByteArray),([]:List (S32)))
noncomputable def spec_Set.f (a0_0 a0_1:Int) (a0_2:ByteArray) (l0_3:List ByteArray) (l0_4:List S32) (a1:ByteArray) (a2_0 a2_1:Int) (a2_2:ByteArray) (l2_3:List ByteArray) (l2_4:List S32):Option (Int × Int × ByteArray × List ByteArray × List S32) :=
 if H.cntTop ⟨a0_0,a0_1,a0_2,l0_3,l0_4⟩≤1099511627776∧H.cntTop ⟨a2_0,a2_1,a2_2,l2_3,l2_4⟩≤1099511627776 then some ((H.setV ⟨a0_0,a0_1,a0_2,l0_3,l0_4⟩ a1 ⟨a2_0,a2_1,a2_2,l2_3,l2_4⟩).f0,(H.setV ⟨a0_0,a0_1,a0_2,l0_3,l0_4⟩ a1 ⟨a2_0,a2_1,a2_2,l2_3,l2_4⟩).f1,(H.setV ⟨a0_0,a0_1,a0_2,l0_3,l0_4⟩ a1 ⟨a2_0,a2_1,a2_2,l2_3,l2_4⟩).f2,(H.setV ⟨a0_0,a0_1,a0_2,l0_3,l0_4⟩ a1 ⟨a2_0,a2_1,a2_2,l2_3,l2_4⟩).f3,(H.setV ⟨a0_0,a0_1,a0_2,l0_3,l0_4⟩ a1 ⟨a2_0,a2_1,a2_2,l2_3,l2_4⟩).f4) else none
def spec_l7Map.l0:Nat→List ByteArray→List (S32)→Int→Int→Int→ByteArray→List ByteArray→List (S32)→Option (Int × Int × ByteArray × List ByteArray × (List (S32)))
 |0,_,_,_,_,_,_,_,_=>none
 |k+1,x0,x1,x6,x496000,x496001,x496002,x496003,x496004=>if x6<(x0.length:Int) then (if 0≤x6 then (if x6<(x1.length:Int) then ((spec_Set.f x496000 x496001 x496002 x496003 x496004 (rdOf ByteArray.empty x0 x6) ((rd_T32 x1 x6).f0) ((rd_T32 x1 x6).f1) ((rd_T32 x1 x6).f2) ((rd_T32 x1 x6).f3) ((rd_T32 x1 x6).f4)).bind fun bt498=>(spec_l7Map.l0 k x0 x1 (wrap64 (x6+1)) bt498.1 bt498.2.1 bt498.2.2.1 bt498.2.2.2.1 bt498.2.2.2.2)) else (none)) else (none)) else (some (x496000,x496001,x496002,x496003,x496004))
def spec_l7Map.f (k:Nat) (l0:List ByteArray) (l1:List (S32)):Option (Int × Int × ByteArray × List ByteArray × (List (S32))):=spec_l7Map.l0 k l0 l1 0 5 0 (⟨#[]⟩:ByteArray) ([]:List ByteArray) ([]:List (S32))
def spec_PaceTree.f (k:Nat) (a0_0:Int) (a0_1:Int) (a0_2:Int) (a0_3:Int):Option (Int × Int × ByteArray × List ByteArray × (List (S32))):=(spec_IntOf.f a0_1).bind fun bt643=>((spec_IntOf.f a0_0).bind fun bt652=>((spec_SpanText.f k a0_3).bind fun t661=>((spec_TextOf.f t661).bind fun bt662=>((spec_SpanText.f k a0_2).bind fun t671=>((spec_TextOf.f t671).bind fun bt672=>((spec_l7Map.f k (([(⟨#[100,111,119,110]⟩:ByteArray),(⟨#[117,112]⟩:ByteArray),(⟨#[100,111,119,110,115,112,97,110]⟩:ByteArray),(⟨#[117,112,115,112,97,110]⟩:ByteArray)]:List ByteArray)) (([(⟨bt643.1,bt643.2.1,bt643.2.2.1,bt643.2.2.2.1,bt643.2.2.2.2⟩:S32),(⟨bt652.1,bt652.2.1,bt652.2.2.1,bt652.2.2.2.1,bt652.2.2.2.2⟩:S32),(⟨bt662.1,bt662.2.1,bt662.2.2.1,bt662.2.2.2.1,bt662.2.2.2.2⟩:S32),(⟨bt672.1,bt672.2.1,bt672.2.2.1,bt672.2.2.2.1,bt672.2.2.2.2⟩:S32)]:List (S32)))).bind fun bt684=>(some (bt684.1,bt684.2.1,bt684.2.2.1,bt684.2.2.2.1,bt684.2.2.2.2))))))))
def spec_l7Head.f (k:Nat) (a0_0:ByteArray) (a0_1:ByteArray) (a0_2:Int) (a0_3:Int) (l0_4:List (S61)) (a0_5:Int) (a0_6:Int) (a0_7:Int) (a0_8:Int) (l0_9:List (S124)) (a1:ByteArray):Option (Int × Int × ByteArray × List ByteArray × (List (S32))):=(spec_TextOf.f a1).bind fun bt512=>((spec_TextOf.f a0_0).bind fun bt521=>((spec_TextOf.f a0_1).bind fun bt530=>((spec_IntOf.f a0_2).bind fun bt539=>((spec_IntOf.f a0_3).bind fun bt548=>((spec_l7Map.f k (([(⟨#[107,105,110,100]⟩:ByteArray),(⟨#[110,97,109,101]⟩:ByteArray),(⟨#[116,97,114,103,101,116]⟩:ByteArray),(⟨#[108,111,119]⟩:ByteArray),(⟨#[104,105,103,104]⟩:ByteArray)]:List ByteArray)) (([(⟨bt512.1,bt512.2.1,bt512.2.2.1,bt512.2.2.2.1,bt512.2.2.2.2⟩:S32),(⟨bt521.1,bt521.2.1,bt521.2.2.1,bt521.2.2.2.1,bt521.2.2.2.2⟩:S32),(⟨bt530.1,bt530.2.1,bt530.2.2.1,bt530.2.2.2.1,bt530.2.2.2.2⟩:S32),(⟨bt539.1,bt539.2.1,bt539.2.2.1,bt539.2.2.2.1,bt539.2.2.2.2⟩:S32),(⟨bt548.1,bt548.2.1,bt548.2.2.1,bt548.2.2.2.1,bt548.2.2.2.2⟩:S32)]:List (S32)))).bind fun bt560=>(some (bt560.1,bt560.2.1,bt560.2.2.1,bt560.2.2.2.1,bt560.2.2.2.2)))))))
def spec_AmountText.j0:Nat→Int→Bool→Option (ByteArray)
 |0,_,_=>none
 |k+1,x0,x7=>if x7=true then ((spec_Digits.f k (wrap64 (Int.tdiv x0 1000000))).bind fun t570=>(if t570.size+1≤9223372036854775807 then (some (t570 ++ (⟨#[107]⟩:ByteArray))) else (none))) else (if (Int.tmod x0 1000)=0 then ((spec_Digits.f k (wrap64 (Int.tdiv x0 1000))).bind fun t571=>(some t571)) else ((spec_Digits.f k x0).bind fun t572=>(if t572.size+1≤9223372036854775807 then (some (t572 ++ (⟨#[109]⟩:ByteArray))) else (none))))
def spec_AmountText.f (k:Nat) (a0:Int):Option (ByteArray):=(spec_l1In.f a0 0 1000000000000).bind fun t569=>(if t569=true then (if a0 > 0 then (spec_AmountText.j0 k a0 ((Int.tmod a0 1000000) == 0)) else (spec_AmountText.j0 k a0 false)) else (some (⟨#[]⟩:ByteArray)))
def spec_l7Kind.f (a0:Int):Option (ByteArray):=(spec_l1In.f a0 1 3).bind fun t190=>(if t190=true then ((some (([(⟨#[]⟩:ByteArray),(⟨#[115,104,97,114,101]⟩:ByteArray),(⟨#[109,101,97,110]⟩:ByteArray),(⟨#[119,104,111,108,101]⟩:ByteArray)]:List ByteArray):List ByteArray)).bind fun y191=>(if 0≤a0 then (if a0<(y191.length:Int) then (some (rdOf ByteArray.empty y191 a0)) else (none)) else (none))) else (some (⟨#[110,111,110,101]⟩:ByteArray)))
def spec_MetricTree.f (k:Nat) (a0_0:ByteArray) (a0_1:Int) (a0_2:Int):Option (Int × Int × ByteArray × List ByteArray × (List (S32))):=(spec_TextOf.f a0_0).bind fun bt578=>((spec_l7Kind.f a0_1).bind fun t587=>((spec_TextOf.f t587).bind fun bt588=>((spec_AmountText.f k a0_2).bind fun t597=>((spec_TextOf.f t597).bind fun bt598=>((spec_l7Map.f k (([(⟨#[110,97,109,101]⟩:ByteArray),(⟨#[107,105,110,100]⟩:ByteArray),(⟨#[103,111,97,108]⟩:ByteArray)]:List ByteArray)) (([(⟨bt578.1,bt578.2.1,bt578.2.2.1,bt578.2.2.2.1,bt578.2.2.2.2⟩:S32),(⟨bt588.1,bt588.2.1,bt588.2.2.1,bt588.2.2.2.1,bt588.2.2.2.2⟩:S32),(⟨bt598.1,bt598.2.1,bt598.2.2.1,bt598.2.2.2.1,bt598.2.2.2.2⟩:S32)]:List (S32)))).bind fun bt610=>(some (bt610.1,bt610.2.1,bt610.2.2.1,bt610.2.2.2.1,bt610.2.2.2.2)))))))
def spec_l7Metrics.l0:Nat→List (S61)→Int→Int→Int→ByteArray→List (S32)→Option (Int × Int × ByteArray × List ByteArray × (List (S32)))
 |0,_,_,_,_,_,_=>none
 |k+1,x0,x4,x621000,x621001,x621002,x621004=>if x4<(x0.length:Int) then (if 0≤x4 then ((spec_MetricTree.f k ((rd_T61 x0 x4).f0) ((rd_T61 x0 x4).f1) ((rd_T61 x0 x4).f2)).bind fun bt622=>(if x621004.length<1759218604441 then (spec_l7Metrics.l0 k x0 (wrap64 (x4+1)) x621000 x621001 x621002 (x621004 ++ [(⟨bt622.1,bt622.2.1,bt622.2.2.1,bt622.2.2.2.1,bt622.2.2.2.2⟩:S32)])) else (none))) else (none)) else (some (x621000,x621001,x621002,([]:List ByteArray),x621004))
def spec_l7Metrics.f (k:Nat) (l0:List (S61)):Option (Int × Int × ByteArray × List ByteArray × (List (S32))):=spec_l7Metrics.l0 k l0 0 4 0 (⟨#[]⟩:ByteArray) ([]:List (S32))
def spec_l7Notes.l0:Nat→List (S124)→Int→Int→Int→ByteArray→List ByteArray→List (S32)→Option (Int × Int × ByteArray × List ByteArray × (List (S32)))
 |0,_,_,_,_,_,_,_=>none
 |k+1,x0,x4,x695000,x695001,x695002,x695003,x695004=>if x4<(x0.length:Int) then (if 0≤x4 then ((spec_TextOf.f ((rd_T124 x0 x4).f1)).bind fun bt697=>((spec_Set.f x695000 x695001 x695002 x695003 x695004 ((rd_T124 x0 x4).f0) bt697.1 bt697.2.1 bt697.2.2.1 bt697.2.2.2.1 bt697.2.2.2.2).bind fun bt706=>(spec_l7Notes.l0 k x0 (wrap64 (x4+1)) bt706.1 bt706.2.1 bt706.2.2.1 bt706.2.2.2.1 bt706.2.2.2.2))) else (none)) else (some (x695000,x695001,x695002,x695003,x695004))
def spec_l7Notes.f (k:Nat) (l0:List (S124)):Option (Int × Int × ByteArray × List ByteArray × (List (S32))):=spec_l7Notes.l0 k l0 0 5 0 (⟨#[]⟩:ByteArray) ([]:List ByteArray) ([]:List (S32))
def spec_FullTree.f (k:Nat) (a0_0:ByteArray) (a0_1:ByteArray) (a0_2:Int) (a0_3:Int) (l0_4:List (S61)) (a0_5:Int) (a0_6:Int) (a0_7:Int) (a0_8:Int) (l0_9:List (S124)):Option (Int × Int × ByteArray × List ByteArray × (List (S32))):=(spec_OrderOk.f k a0_0 a0_1 a0_2 a0_3 l0_4 a0_5 a0_6 a0_7 a0_8 l0_9).bind fun t717=>(if t717=true then ((spec_l7Head.f k a0_0 a0_1 a0_2 a0_3 l0_4 a0_5 a0_6 a0_7 a0_8 l0_9 (⟨#[102,117,108,108]⟩:ByteArray)).bind fun bt718=>((spec_l7Metrics.f k l0_4).bind fun bt727=>((spec_Set.f bt718.1 bt718.2.1 bt718.2.2.1 bt718.2.2.2.1 bt718.2.2.2.2 (⟨#[109,101,116,114,105,99,115]⟩:ByteArray) bt727.1 bt727.2.1 bt727.2.2.1 bt727.2.2.2.1 bt727.2.2.2.2).bind fun bt736=>((spec_PaceTree.f k a0_5 a0_6 a0_7 a0_8).bind fun bt746=>((spec_Set.f bt736.1 bt736.2.1 bt736.2.2.1 bt736.2.2.2.1 bt736.2.2.2.2 (⟨#[112,97,99,101]⟩:ByteArray) bt746.1 bt746.2.1 bt746.2.2.1 bt746.2.2.2.1 bt746.2.2.2.2).bind fun bt755=>((spec_l7Notes.f k l0_9).bind fun bt764=>((spec_Set.f bt755.1 bt755.2.1 bt755.2.2.1 bt755.2.2.2.1 bt755.2.2.2.2 (⟨#[110,111,116,101,115]⟩:ByteArray) bt764.1 bt764.2.1 bt764.2.2.1 bt764.2.2.2.1 bt764.2.2.2.2).bind fun bt773=>(some (bt773.1,bt773.2.1,bt773.2.2.1,bt773.2.2.2.1,bt773.2.2.2.2))))))))) else (some (0,0,(⟨#[]⟩:ByteArray),([]:List ByteArray),([]:List (S32)))))
mutual
def spec_l3At.l0:Nat→ByteArray→Int→Int→Int→ByteArray→List ByteArray→List (S32)→Option (Int)
 |0,_,_,_,_,_,_,_=>none
 |k+1,x1,x5,x133000,x133001,x133002,x133003,x133004=>if x5<(x133003.length:Int) then (if x5<(x133004.length:Int) then (spec_l3At.j1 k x1 x5 (x133000 == 5) x133000 x133001 x133002 x133003 x133004) else (spec_l3At.j1 k x1 x5 false x133000 x133001 x133002 x133003 x133004)) else (spec_l3At.j1 k x1 x5 false x133000 x133001 x133002 x133003 x133004)
def spec_l3At.j1:Nat→ByteArray→Int→Bool→Int→Int→ByteArray→List ByteArray→List (S32)→Option (Int)
 |0,_,_,_,_,_,_,_,_=>none
 |k+1,x1,x5,x22,x133000,x133001,x133002,x133003,x133004=>if x22=true then (if 0≤x5 then (if x5<(x133003.length:Int) then (if (rdOf ByteArray.empty x133003 x5).toList=x1.toList then (some x5) else (spec_l3At.l0 k x1 (wrap64 (x5+1)) x133000 x133001 x133002 x133003 x133004)) else (none)) else (none)) else (some (-1))
end
def spec_l3At.f (k:Nat) (a0_0:Int) (a0_1:Int) (a0_2:ByteArray) (l0_3:List ByteArray) (l0_4:List (S32)) (a1:ByteArray):Option (Int):=spec_l3At.l0 k a1 0 a0_0 a0_1 a0_2 l0_3 l0_4
def laws_szMetric.f (a0_0:ByteArray) (a0_1:Int) (a0_2:Int) (a1:Int):Option (Int):=if (wrap64 (a1-(a0_0.size:Int)))<0 then (some (-1)) else (some (wrap64 (a1-(a0_0.size:Int))))
def laws_szMetricS.l0:Nat→List (S113)→Int→Int→Option (Int)
 |0,_,_,_=>none
 |k+1,x0,x1,x5=>if x5<(x0.length:Int) then (if 0≤x5 then ((laws_szMetric.f ((rd_T113 x0 x5).f0) ((rd_T113 x0 x5).f1) ((rd_T113 x0 x5).f2) x1).bind fun t454=>(if t454<0 then (some (-1)) else (laws_szMetricS.l0 k x0 t454 (wrap64 (x5+1))))) else (none)) else (some x1)
def laws_szMetricS.f (k:Nat) (l0:List (S113)) (a1:Int):Option (Int):=if (wrap64 (a1-(l0.length:Int)))<0 then (some (-1)) else (laws_szMetricS.l0 k l0 (wrap64 (a1-(l0.length:Int))) 0)
def laws_szNote.f (a0_0:ByteArray) (a0_1:ByteArray) (a1:Int):Option (Int):=if (wrap64 (a1-(a0_0.size:Int)))<0 then (some (-1)) else (if (wrap64 ((wrap64 (a1-(a0_0.size:Int)))-(a0_1.size:Int)))<0 then (some (-1)) else (some (wrap64 ((wrap64 (a1-(a0_0.size:Int)))-(a0_1.size:Int)))))
def laws_szNoteS.l0:Nat→List (S116)→Int→Int→Option (Int)
 |0,_,_,_=>none
 |k+1,x0,x1,x5=>if x5<(x0.length:Int) then (if 0≤x5 then ((laws_szNote.f ((rd_T116 x0 x5).f0) ((rd_T116 x0 x5).f1) x1).bind fun t457=>(if t457<0 then (some (-1)) else (laws_szNoteS.l0 k x0 t457 (wrap64 (x5+1))))) else (none)) else (some x1)
def laws_szNoteS.f (k:Nat) (l0:List (S116)) (a1:Int):Option (Int):=if (wrap64 (a1-(l0.length:Int)))<0 then (some (-1)) else (laws_szNoteS.l0 k l0 (wrap64 (a1-(l0.length:Int))) 0)
def laws_szOrder.f (k:Nat) (a0_0:ByteArray) (a0_1:ByteArray) (a0_2:Int) (a0_3:Int) (l0_4:List (S113)) (a0_5:Int) (a0_6:Int) (a0_7:Int) (a0_8:Int) (l0_9:List (S116)) (a1:Int):Option (Int):=if (wrap64 (a1-(a0_0.size:Int)))<0 then (some (-1)) else (if (wrap64 ((wrap64 (a1-(a0_0.size:Int)))-(a0_1.size:Int)))<0 then (some (-1)) else ((laws_szMetricS.f k l0_4 (wrap64 ((wrap64 (a1-(a0_0.size:Int)))-(a0_1.size:Int)))).bind fun t459=>(if t459<0 then (some (-1)) else ((laws_szNoteS.f k l0_9 t459).bind fun t460=>(if t460<0 then (some (-1)) else (some t460))))))
def laws_eqMetric.f (a0_0:ByteArray) (a0_1:Int) (a0_2:Int) (a1_0:ByteArray) (a1_1:Int) (a1_2:Int):Option (Bool):=if a0_0.toList=a1_0.toList then (if a0_1=a1_1 then (if a0_2=a1_2 then (some true) else (some false)) else (some false)) else (some false)
def laws_eqMetricS.l0:Nat→List (S61)→List (S61)→Int→Option (Bool)
 |0,_,_,_=>none
 |k+1,x0,x1,x5=>if x5<(x0.length:Int) then (if 0≤x5 then (if x5<(x1.length:Int) then ((laws_eqMetric.f ((rd_T61 x0 x5).f0) ((rd_T61 x0 x5).f1) ((rd_T61 x0 x5).f2) ((rd_T61 x1 x5).f0) ((rd_T61 x1 x5).f1) ((rd_T61 x1 x5).f2)).bind fun t406=>(if t406=true then (laws_eqMetricS.l0 k x0 x1 (wrap64 (x5+1))) else (some false))) else (none)) else (none)) else (some true)
def laws_eqMetricS.f (k:Nat) (l0:List (S61)) (l1:List (S61)):Option (Bool):=if (l0.length:Int)=(l1.length:Int) then (laws_eqMetricS.l0 k l0 l1 0) else (some false)
def laws_eqNote.f (a0_0:ByteArray) (a0_1:ByteArray) (a1_0:ByteArray) (a1_1:ByteArray):Option (Bool):=if a0_0.toList=a1_0.toList then (if a0_1.toList=a1_1.toList then (some true) else (some false)) else (some false)
def laws_eqNoteS.l0:Nat→List (S124)→List (S124)→Int→Option (Bool)
 |0,_,_,_=>none
 |k+1,x0,x1,x5=>if x5<(x0.length:Int) then (if 0≤x5 then (if x5<(x1.length:Int) then ((laws_eqNote.f ((rd_T124 x0 x5).f0) ((rd_T124 x0 x5).f1) ((rd_T124 x1 x5).f0) ((rd_T124 x1 x5).f1)).bind fun t1148=>(if t1148=true then (laws_eqNoteS.l0 k x0 x1 (wrap64 (x5+1))) else (some false))) else (none)) else (none)) else (some true)
def laws_eqNoteS.f (k:Nat) (l0:List (S124)) (l1:List (S124)):Option (Bool):=if (l0.length:Int)=(l1.length:Int) then (laws_eqNoteS.l0 k l0 l1 0) else (some false)
def laws_eqPace.f (a0_0:Int) (a0_1:Int) (a0_2:Int) (a0_3:Int) (a1_0:Int) (a1_1:Int) (a1_2:Int) (a1_3:Int):Option (Bool):=if a0_0=a1_0 then (if a0_1=a1_1 then (if a0_2=a1_2 then (if a0_3=a1_3 then (some true) else (some false)) else (some false)) else (some false)) else (some false)
def laws_eqOrder.f (k:Nat) (a0_0:ByteArray) (a0_1:ByteArray) (a0_2:Int) (a0_3:Int) (l0_4:List (S61)) (a0_5:Int) (a0_6:Int) (a0_7:Int) (a0_8:Int) (l0_9:List (S124)) (a1_0:ByteArray) (a1_1:ByteArray) (a1_2:Int) (a1_3:Int) (l1_4:List (S61)) (a1_5:Int) (a1_6:Int) (a1_7:Int) (a1_8:Int) (l1_9:List (S124)):Option (Bool):=if a0_0.toList=a1_0.toList then (if a0_1.toList=a1_1.toList then (if a0_2=a1_2 then (if a0_3=a1_3 then ((laws_eqMetricS.f k l0_4 l1_4).bind fun t1151=>(if t1151=true then ((laws_eqPace.f a0_5 a0_6 a0_7 a0_8 a1_5 a1_6 a1_7 a1_8).bind fun t1152=>(if t1152=true then ((laws_eqNoteS.f k l0_9 l1_9).bind fun t1153=>(if t1153=true then (some true) else (some false))) else (some false))) else (some false))) else (some false)) else (some false)) else (some false)) else (some false)
def laws_eqStringS.l0:Nat→List ByteArray→List ByteArray→Int→Option (Bool)
 |0,_,_,_=>none
 |k+1,x0,x1,x5=>if x5<(x0.length:Int) then (if 0≤x5 then (if x5<(x1.length:Int) then (if (rdOf ByteArray.empty x0 x5).toList=(rdOf ByteArray.empty x1 x5).toList then (laws_eqStringS.l0 k x0 x1 (wrap64 (x5+1))) else (some false)) else (none)) else (none)) else (some true)
def laws_eqStringS.f (k:Nat) (l0:List ByteArray) (l1:List ByteArray):Option (Bool):=if (l0.length:Int)=(l1.length:Int) then (laws_eqStringS.l0 k l0 l1 0) else (some false)
mutual
def laws_eqNode.f:Nat→Int→Int→ByteArray→List ByteArray→List (S32)→Int→Int→ByteArray→List ByteArray→List (S32)→Option (Bool)
 |0,_,_,_,_,_,_,_,_,_,_=>none
 |k+1,a0_0,a0_1,a0_2,l0_3,l0_4,a1_0,a1_1,a1_2,l1_3,l1_4=>if a0_0=a1_0 then (if a0_1=a1_1 then (if a0_2.toList=a1_2.toList then ((laws_eqStringS.f k l0_3 l1_3).bind fun t411=>(if t411=true then ((laws_eqNodeS.f k l0_4 l1_4).bind fun t412=>(if t412=true then (some true) else (some false))) else (some false))) else (some false)) else (some false)) else (some false)
def laws_eqNodeS.l0:Nat→List (S32)→List (S32)→Int→Option (Bool)
 |0,_,_,_=>none
 |k+1,x0,x1,x5=>if x5<(x0.length:Int) then (if 0≤x5 then (if x5<(x1.length:Int) then ((laws_eqNode.f k ((rd_T32 x0 x5).f0) ((rd_T32 x0 x5).f1) ((rd_T32 x0 x5).f2) ((rd_T32 x0 x5).f3) ((rd_T32 x0 x5).f4) ((rd_T32 x1 x5).f0) ((rd_T32 x1 x5).f1) ((rd_T32 x1 x5).f2) ((rd_T32 x1 x5).f3) ((rd_T32 x1 x5).f4)).bind fun t415=>(if t415=true then (laws_eqNodeS.l0 k x0 x1 (wrap64 (x5+1))) else (some false))) else (none)) else (none)) else (some true)
def laws_eqNodeS.f:Nat→List (S32)→List (S32)→Option (Bool)
 |0,_,_=>none
 |k+1,l0,l1=>if (l0.length:Int)=(l1.length:Int) then (laws_eqNodeS.l0 k l0 l1 0) else (some false)
end
def laws_markText.l0:Nat→Int→ByteArray→Option (ByteArray)
 |0,_,_=>none
 |k+1,x0,x3=>if x0 > 0 then ((some (([(wrap64 (48+(Int.tmod x0 10))) % 256]:List Int):List Int)).bind fun y416=>(if (strOfNums y416).size+x3.size≤9223372036854775807 then (laws_markText.l0 k (wrap64 (Int.tdiv x0 10)) ((strOfNums y416) ++ x3)) else (none))) else (if 1+x3.size≤9223372036854775807 then (some ((⟨#[109]⟩:ByteArray) ++ x3)) else (none))
def laws_markText.f (k:Nat) (a0:Int):Option (ByteArray):=if a0≤0 then (some (⟨#[109,48]⟩:ByteArray)) else (laws_markText.l0 k a0 (⟨#[]⟩:ByteArray))
theorem laws_markText.mono_l:∀ k,(∀ y0 y1,LeO (laws_markText.l0 k y0 y1) (laws_markText.l0 (k+1) y0 y1))
 |0=>fun _ _ r h=>by simp [laws_markText.l0] at h
 |k+1=>by
  have ih0:=laws_markText.mono_l k
  ·intro y0 y1
   unfold laws_markText.l0
   repeat' first
   |(with_reducible exact ih0 _ _)
   |(with_reducible exact LeO.refl _)
   |(with_reducible exact LeO.none _)
   |(with_reducible refine LeO.ite ?_ ?_)
   |(with_reducible refine LeO.bind ?_ (fun _=>?_))
   |exact ih0 _ _
   |exact LeO.none _
   |refine LeO.ite ?_ ?_
   |refine LeO.bind ?_ (fun _=>?_)
theorem laws_markText.mono:∀ a0 k,LeO (laws_markText.f k a0) (laws_markText.f (k+1) a0):=by
 intro a0 k
 have ih0:=laws_markText.mono_l k
 unfold laws_markText.f
 repeat' first
   |(with_reducible exact ih0 _ _)
   |(with_reducible exact LeO.refl _)
   |(with_reducible exact LeO.none _)
   |(with_reducible refine LeO.ite ?_ ?_)
   |(with_reducible refine LeO.bind ?_ (fun _=>?_))
   |exact ih0 _ _
   |exact LeO.none _
   |refine LeO.ite ?_ ?_
   |refine LeO.bind ?_ (fun _=>?_)
def laws_heldStringS.l0:Nat→List ByteArray→Int→Int→Option (Int)
 |0,_,_,_=>none
 |k+1,x0,x1,x5=>if x5<(x0.length:Int) then (if 0≤x5 then ((laws_markText.f k x1).bind fun t1164=>(if (rdOf ByteArray.empty x0 x5).toList=t1164.toList then (laws_heldStringS.l0 k x0 (wrap64 (x1+1)) (wrap64 (x5+1))) else (some (-1)))) else (none)) else (some x1)
def laws_heldStringS.f (k:Nat) (l0:List ByteArray) (a1:Int):Option (Int):=laws_heldStringS.l0 k l0 a1 0
mutual
def laws_heldNodeS.l0:Nat→List (S32)→Int→Int→Option (Int)
 |0,_,_,_=>none
 |k+1,x0,x1,x5=>if x5<(x0.length:Int) then (if 0≤x5 then (if ((rd_T32 x0 x5).f0)=x1 then (if ((rd_T32 x0 x5).f1)=(wrap64 (x1+1)) then ((laws_markText.f k (wrap64 ((wrap64 (x1+1))+1))).bind fun t1168=>(if ((rd_T32 x0 x5).f2).toList=t1168.toList then ((laws_heldStringS.f k ((rd_T32 x0 x5).f3) (wrap64 ((wrap64 ((wrap64 (x1+1))+1))+1))).bind fun t1170=>(if t1170<0 then (some (-1)) else ((laws_heldNodeS.f k ((rd_T32 x0 x5).f4) t1170).bind fun t1172=>(if t1172<0 then (some (-1)) else (laws_heldNodeS.l0 k x0 t1172 (wrap64 (x5+1))))))) else (some (-1)))) else (some (-1))) else (some (-1))) else (none)) else (some x1)
def laws_heldNodeS.f:Nat→List (S32)→Int→Option (Int)
 |0,_,_=>none
 |k+1,l0,a1=>laws_heldNodeS.l0 k l0 a1 0
end
def laws_heldNode.f (k:Nat) (a0_0:Int) (a0_1:Int) (a0_2:ByteArray) (l0_3:List ByteArray) (l0_4:List (S32)) (a1:Int):Option (Int):=(laws_heldStringS.f k l0_3 a1).bind fun t1174=>(if t1174<0 then (some (-1)) else ((laws_heldNodeS.f k l0_4 t1174).bind fun t1175=>(if t1175<0 then (some (-1)) else (some t1175))))
def shB (k n:Int) (e:Bool) (n3 n4:Nat):Bool :=
 if k=0 then decide (n=0) && e && decide (n3=0) && decide (n4=0)
 else if k=1 then decide (0≤n) && decide (n≤1) && e && decide (n3=0) && decide (n4=0)
 else if k=2 then decide (-1000000000000≤n) && decide (n≤1000000000000) && e && decide (n3=0) && decide (n4=0)
 else if k=3 then decide (n=0) && decide (n3=0) && decide (n4=0)
 else if k=4 then decide (n=0) && e && decide (n3=0)
 else if k=5 then decide (n3=n4) && decide (n=0) && e
 else false
def impl_shapeOk.l0 (e:Bool):Nat→List ByteArray→Nat→Option Bool
 |0,_,_=>none
 |k+1,l,i=>if i<l.length then (impl_TextOk.f k (rdOf ByteArray.empty l (i:Int))).bind fun t=>(if t=true then (if 0<i then (if Op.bytesLess (rdOf ByteArray.empty l ((i:Int)-1)).toList (rdOf ByteArray.empty l (i:Int)).toList=true then impl_shapeOk.l0 e k l (i+1) else some false) else impl_shapeOk.l0 e k l (i+1)) else some false) else some e
def impl_shapeOk.f (k:Nat) (a0_0 a0_1:Int) (a0_2:ByteArray) (l0_3:List ByteArray) (l0_4:List S32):Option Bool :=
 if a0_0=3 then (impl_TextOk.f k a0_2).bind fun t=>(if t=true then some (shB 3 a0_1 (a0_2.toList == []) l0_3.length l0_4.length) else some false)
 else if a0_0=5 then (if l0_3.length=l0_4.length then impl_shapeOk.l0 (decide (a0_1=0) && (a0_2.toList == [])) k l0_3 0 else some false)
 else some (shB a0_0 a0_1 (a0_2.toList == []) l0_3.length l0_4.length)
mutual
def impl_allShapes.f:Nat→Int→Int→ByteArray→List ByteArray→List (S32)→Option (Bool)
 |0,_,_,_,_,_=>none
 |k+1,a0_0,a0_1,a0_2,l0_3,l0_4=>(impl_shapeOk.f k a0_0 a0_1 a0_2 l0_3 l0_4).bind fun t308=>(if t308=true then ((impl_Node_145.f k l0_4).bind fun t309=>(some (!t309))) else (some false))
def impl_Node_145.f:Nat→List (S32)→Option (Bool)
 |0,_=>none
 |k+1,l0=>(impl_Node_175.f k l0).bind fun t310=>(some (decide (t310 ≥ 0)))
def impl_allShapes_1.f:Nat→Int→Int→ByteArray→List ByteArray→List (S32)→Option (Bool)
 |0,_,_,_,_,_=>none
 |k+1,a0_0,a0_1,a0_2,l0_3,l0_4=>(impl_allShapes.f k a0_0 a0_1 a0_2 l0_3 l0_4).bind fun t312=>(some (!t312))
def impl_Node_175.l0:Nat→List (S32)→Int→Int→Option (Int)
 |0,_,_,_=>none
 |k+1,x0,x7,x8=>if x8<x7 then (if 0≤x8 then (if x8<(x0.length:Int) then ((impl_allShapes_1.f k ((rd_T32 x0 x8).f0) ((rd_T32 x0 x8).f1) ((rd_T32 x0 x8).f2) ((rd_T32 x0 x8).f3) ((rd_T32 x0 x8).f4)).bind fun t314=>(if t314=true then (some x8) else (impl_Node_175.l0 k x0 x7 (wrap64 (x8+1))))) else (none)) else (none)) else (some (-1))
def impl_Node_175.f:Nat→List (S32)→Option (Int)
 |0,_=>none
 |k+1,l0=>impl_Node_175.l0 k l0 (l0.length:Int) 0
end
mutual
def impl_size.l0:Nat→Int→Int→Int→List (S32)→Int→Int→Option (Int × Int)
 |0,_,_,_,_,_,_=>none
 |k+1,x1,x6,x7,x15,x16,x17=>if x17<x16 then (if 0≤x17 then (if x17<(x15.length:Int) then ((impl_size.f k ((rd_T32 x15 x17).f0) ((rd_T32 x15 x17).f1) ((rd_T32 x15 x17).f2) ((rd_T32 x15 x17).f3) ((rd_T32 x15 x17).f4) (wrap64 (x1-1))).bind fun bt304=>(impl_size.l0 k x1 (mn (wrap64 (x6+bt304.1)) 201) (mx x7 bt304.2) x15 x16 (wrap64 (x17+1)))) else (none)) else (none)) else (some (x6,wrap64 (x7+1)))
def impl_size.f:Nat→Int→Int→ByteArray→List ByteArray→List (S32)→Int→Option (Int × Int)
 |0,_,_,_,_,_,_=>none
 |k+1,a0_0,a0_1,a0_2,l0_3,l0_4,a1=>if a1=0 then (some (201,9)) else (impl_size.l0 k a1 1 0 l0_4 (l0_4.length:Int) 0)
end
def impl_TreeOk.f (k:Nat) (a0_0:Int) (a0_1:Int) (a0_2:ByteArray) (l0_3:List ByteArray) (l0_4:List (S32)):Option (Bool):=(impl_size.f k a0_0 a0_1 a0_2 l0_3 l0_4 9).bind fun bt316=>(if bt316.1≤200 then (if bt316.2≤8 then ((impl_allShapes.f k a0_0 a0_1 a0_2 l0_3 l0_4).bind fun t318=>(some t318)) else (some false)) else (some false))
def impl_Quote.l0:Nat→ByteArray→List Int→Int→Int→Option (ByteArray)
 |0,_,_,_,_=>none
 |k+1,x0,x3,x10,x11=>if x11<x10 then (if 0≤x11 then (if x11<(x0.size:Int) then (if (bt x0 x11)=34 then (if x3.length<140737488355328 then ((some (x3 ++ [92]:List Int)).bind fun y1407=>(if y1407.length<140737488355328 then (impl_Quote.l0 k x0 (y1407 ++ [bt x0 x11]) x10 (wrap64 (x11+1))) else (none))) else (none)) else (if (bt x0 x11)=92 then (if x3.length<140737488355328 then ((some (x3 ++ [92]:List Int)).bind fun y1413=>(if y1413.length<140737488355328 then (impl_Quote.l0 k x0 (y1413 ++ [bt x0 x11]) x10 (wrap64 (x11+1))) else (none))) else (none)) else (if x3.length<140737488355328 then (impl_Quote.l0 k x0 (x3 ++ [bt x0 x11]) x10 (wrap64 (x11+1))) else (none)))) else (none)) else (none)) else (if x3.length<140737488355328 then (some (strOfNums (x3 ++ [34]))) else (none))
def impl_Quote.f (k:Nat) (a0:ByteArray):Option (ByteArray):=(impl_TextOk.f k a0).bind fun t1403=>(if t1403=true then (impl_Quote.l0 k a0 (([34]:List Int)) (a0.size:Int) 0) else (some (⟨#[]⟩:ByteArray)))
def strings_Join.f (l0:List ByteArray) (a1:ByteArray):Option ByteArray:=if l0.length≤140737488355328 then (if (Lib.join (l0.map (·.data.toList)) a1.data.toList).length≤140737488355328 then some ⟨(Lib.join (l0.map (·.data.toList)) a1.data.toList).toArray⟩ else none) else none
mutual
def impl_braced.l0:Nat→List ByteArray→List (S32)→Int→Int→Int→Int→ByteArray→List ByteArray→List (S32)→Option (ByteArray)
 |0,_,_,_,_,_,_,_,_,_=>none
 |k+1,x3,x28,x29,x30,x1426000,x1426001,x1426002,x1426003,x1426004=>if x30<x29 then (if 0≤x30 then (if x30<(x28.length:Int) then ((impl_braced.f k ((rd_T32 x28 x30).f0) ((rd_T32 x28 x30).f1) ((rd_T32 x28 x30).f2) ((rd_T32 x28 x30).f3) ((rd_T32 x28 x30).f4)).bind fun t1433=>(if x1426000=5 then (if x30<(x1426003.length:Int) then ((impl_Quote.f k (rdOf ByteArray.empty x1426003 x30)).bind fun t1435=>(if t1435.size+1≤9223372036854775807 then (if (t1435 ++ (⟨#[58]⟩:ByteArray)).size+t1433.size≤9223372036854775807 then (if x3.length<8796093022208 then (impl_braced.l0 k (x3 ++ [(t1435 ++ (⟨#[58]⟩:ByteArray)) ++ t1433]) x28 x29 (wrap64 (x30+1)) x1426000 x1426001 x1426002 x1426003 x1426004) else (none)) else (none)) else (none))) else (none)) else (if x3.length<8796093022208 then (impl_braced.l0 k (x3 ++ [t1433]) x28 x29 (wrap64 (x30+1)) x1426000 x1426001 x1426002 x1426003 x1426004) else (none)))) else (none)) else (none)) else (if x1426000=5 then ((strings_Join.f x3 (⟨#[44]⟩:ByteArray)).bind fun t1442=>(if 1+t1442.size≤9223372036854775807 then (if ((⟨#[123]⟩:ByteArray) ++ t1442).size+1≤9223372036854775807 then (some (((⟨#[123]⟩:ByteArray) ++ t1442) ++ (⟨#[125]⟩:ByteArray))) else (none)) else (none))) else ((strings_Join.f x3 (⟨#[44]⟩:ByteArray)).bind fun t1443=>(if 1+t1443.size≤9223372036854775807 then (if ((⟨#[91]⟩:ByteArray) ++ t1443).size+1≤9223372036854775807 then (some (((⟨#[91]⟩:ByteArray) ++ t1443) ++ (⟨#[93]⟩:ByteArray))) else (none)) else (none))))
def impl_braced.f:Nat→Int→Int→ByteArray→List ByteArray→List (S32)→Option (ByteArray)
 |0,_,_,_,_,_=>none
 |k+1,a0_0,a0_1,a0_2,l0_3,l0_4=>if a0_0=0 then (some (⟨#[110,117,108,108]⟩:ByteArray)) else (if a0_0=1 then (if a0_1=1 then (some (⟨#[116,114,117,101]⟩:ByteArray)) else (some (⟨#[102,97,108,115,101]⟩:ByteArray))) else (if a0_0=2 then ((impl_Digits.f k a0_1).bind fun t1426=>(some t1426)) else (if a0_0=3 then ((impl_Quote.f k a0_2).bind fun t1427=>(some t1427)) else (impl_braced.l0 k (([]:List ByteArray)) l0_4 (l0_4.length:Int) 0 a0_0 a0_1 a0_2 l0_3 l0_4))))
end
def impl_Braced.f (k:Nat) (a0_0:Int) (a0_1:Int) (a0_2:ByteArray) (l0_3:List ByteArray) (l0_4:List (S32)):Option (ByteArray):=(impl_TreeOk.f k a0_0 a0_1 a0_2 l0_3 l0_4).bind fun t1445=>(if t1445=true then ((impl_braced.f k a0_0 a0_1 a0_2 l0_3 l0_4).bind fun t1446=>(some t1446)) else (some (⟨#[]⟩:ByteArray)))
def impl_PaceNew.f:Option (Int × Int × Int × Int):=some (0,0,0,300)
def impl_pacedNotes.f (k:Nat) (a0_0:ByteArray) (a0_1:ByteArray) (a0_2:Int) (a0_3:Int) (l0_4:List (S61)) (a0_5:Int) (a0_6:Int) (a0_7:Int) (a0_8:Int) (l0_9:List (S124)):Option (Int × Int × ByteArray × List ByteArray × (List (S32))):=(impl_notesTree.f k l0_9).bind fun bt1450=>((impl_PaceNew.f).bind fun bt1460=>(if (!(a0_5 == bt1460.1) || (!(a0_6 == bt1460.2.1) || (!(a0_7 == bt1460.2.2.1) || (!(a0_8 == bt1460.2.2.2)))))=true then ((impl_PaceTree.f k a0_5 a0_6 a0_7 a0_8).bind fun bt1464=>((impl_Braced.f k bt1464.1 bt1464.2.1 bt1464.2.2.1 bt1464.2.2.2.1 bt1464.2.2.2.2).bind fun t1473=>((impl_TextOf.f t1473).bind fun bt1474=>((impl_Set.f bt1450.1 bt1450.2.1 bt1450.2.2.1 bt1450.2.2.2.1 bt1450.2.2.2.2 (⟨#[113,117,97,121,47,112,97,99,101]⟩:ByteArray) bt1474.1 bt1474.2.1 bt1474.2.2.1 bt1474.2.2.2.1 bt1474.2.2.2.2).bind fun bt1483=>(some (bt1483.1,bt1483.2.1,bt1483.2.2.1,bt1483.2.2.2.1,bt1483.2.2.2.2)))))) else (some (bt1450.1,bt1450.2.1,bt1450.2.2.1,bt1450.2.2.2.1,bt1450.2.2.2.2))))
def impl_MidTree.f (k:Nat) (a0_0:ByteArray) (a0_1:ByteArray) (a0_2:Int) (a0_3:Int) (l0_4:List (S61)) (a0_5:Int) (a0_6:Int) (a0_7:Int) (a0_8:Int) (l0_9:List (S124)):Option (Int × Int × ByteArray × List ByteArray × (List (S32))):=(impl_OrderOk.f k a0_0 a0_1 a0_2 a0_3 l0_4 a0_5 a0_6 a0_7 a0_8 l0_9).bind fun t1494=>(if t1494=true then ((impl_commonTree.f k a0_0 a0_1 a0_2 a0_3 l0_4 a0_5 a0_6 a0_7 a0_8 l0_9 (⟨#[109,105,100,100,108,101]⟩:ByteArray)).bind fun bt1495=>((impl_metricsTree.f k l0_4).bind fun bt1504=>((impl_Set.f bt1495.1 bt1495.2.1 bt1495.2.2.1 bt1495.2.2.2.1 bt1495.2.2.2.2 (⟨#[109,101,116,114,105,99,115]⟩:ByteArray) bt1504.1 bt1504.2.1 bt1504.2.2.1 bt1504.2.2.2.1 bt1504.2.2.2.2).bind fun bt1513=>((impl_pacedNotes.f k a0_0 a0_1 a0_2 a0_3 l0_4 a0_5 a0_6 a0_7 a0_8 l0_9).bind fun bt1523=>((impl_Set.f bt1513.1 bt1513.2.1 bt1513.2.2.1 bt1513.2.2.2.1 bt1513.2.2.2.2 (⟨#[110,111,116,101,115]⟩:ByteArray) bt1523.1 bt1523.2.1 bt1523.2.2.1 bt1523.2.2.2.1 bt1523.2.2.2.2).bind fun bt1532=>(some (bt1532.1,bt1532.2.1,bt1532.2.2.1,bt1532.2.2.2.1,bt1532.2.2.2.2))))))) else (some (0,0,(⟨#[]⟩:ByteArray),([]:List ByteArray),([]:List (S32)))))
def spec_l1Max.f (a0:Int) (a1:Int):Option (Int):=if a0 > a1 then (some a0) else (some a1)
mutual
def spec_l3Deep.l0:Nat→Int→Int→Int→Int→ByteArray→List ByteArray→List (S32)→Option (Int)
 |0,_,_,_,_,_,_,_=>none
 |k+1,x3,x4,x108000,x108001,x108002,x108003,x108004=>if x4<(x108004.length:Int) then (if 0≤x4 then ((spec_l3Deep.f k ((rd_T32 x108004 x4).f0) ((rd_T32 x108004 x4).f1) ((rd_T32 x108004 x4).f2) ((rd_T32 x108004 x4).f3) ((rd_T32 x108004 x4).f4)).bind fun t109=>((spec_l1Max.f x3 t109).bind fun t110=>(spec_l3Deep.l0 k t110 (wrap64 (x4+1)) x108000 x108001 x108002 x108003 x108004))) else (none)) else (some (wrap64 (x3+1)))
def spec_l3Deep.f:Nat→Int→Int→ByteArray→List ByteArray→List (S32)→Option (Int)
 |0,_,_,_,_,_=>none
 |k+1,a0_0,a0_1,a0_2,l0_3,l0_4=>spec_l3Deep.l0 k 0 0 a0_0 a0_1 a0_2 l0_3 l0_4
end
def spec_l3Keys.l0:Nat→List ByteArray→Int→Option (Bool)
 |0,_,_=>none
 |k+1,x0,x3=>if x3<(x0.length:Int) then (if 0≤x3 then ((spec_TextOk.f k (rdOf ByteArray.empty x0 x3)).bind fun t119=>(if t119=true then (if x3 > 0 then (if 0≤(wrap64 (x3-1)) then (if (wrap64 (x3-1))<(x0.length:Int) then (if ((Op.bytesLess ((rdOf ByteArray.empty x0 (wrap64 (x3-1))).toList) ((rdOf ByteArray.empty x0 x3).toList))=true) then (spec_l3Keys.l0 k x0 (wrap64 (x3+1))) else (some false)) else (none)) else (none)) else (spec_l3Keys.l0 k x0 (wrap64 (x3+1)))) else (some false))) else (none)) else (some true)
def spec_l3Keys.f (k:Nat) (l0:List ByteArray):Option (Bool):=spec_l3Keys.l0 k l0 0
def spec_l3Leaf.j0:Nat→Bool→Int→Int→ByteArray→List ByteArray→List (S32)→Option (Bool)
 |0,_,_,_,_,_,_=>none
 |k+1,x12,x115000,x115001,x115002,x115003,x115004=>if x12=true then (some false) else (if x115000=0 then (if x115001=0 then (some (x115002.toList == ([]:List UInt8))) else (some false)) else (if x115000=1 then ((spec_l1In.f x115001 0 1).bind fun t115=>(if t115=true then (some (x115002.toList == ([]:List UInt8))) else (some false))) else (if x115000=2 then ((spec_l1In.f x115001 (-1000000000000) 1000000000000).bind fun t116=>(if t116=true then (some (x115002.toList == ([]:List UInt8))) else (some false))) else (if x115000=3 then (if x115001=0 then ((spec_TextOk.f k x115002).bind fun t117=>(some t117)) else (some false)) else (some false)))))
def spec_l3Leaf.f (k:Nat) (a0_0:Int) (a0_1:Int) (a0_2:ByteArray) (l0_3:List ByteArray) (l0_4:List (S32)):Option (Bool):=if (l0_4.length:Int) > 0 then (spec_l3Leaf.j0 k true a0_0 a0_1 a0_2 l0_3 l0_4) else (spec_l3Leaf.j0 k (decide ((l0_3.length:Int) > 0)) a0_0 a0_1 a0_2 l0_3 l0_4)
mutual
def spec_l3Right.j0:Nat→Bool→Int→Int→ByteArray→List ByteArray→List (S32)→Option (Bool)
 |0,_,_,_,_,_,_=>none
 |k+1,x11,x123000,x123001,x123002,x123003,x123004=>if x11=true then ((spec_l3Leaf.f k x123000 x123001 x123002 x123003 x123004).bind fun t123=>(some t123)) else (if x123001=0 then (if x123002.toList=([]:List UInt8) then (if x123000=4 then (if (x123003.length:Int) > 0 then (spec_l3Right.j1 k true x123000 x123001 x123002 x123003 x123004) else (if x123000=5 then (if (x123003.length:Int)=(x123004.length:Int) then ((spec_l3Keys.f k x123003).bind fun t124=>(spec_l3Right.j1 k (!t124) x123000 x123001 x123002 x123003 x123004)) else (spec_l3Right.j1 k true x123000 x123001 x123002 x123003 x123004)) else (spec_l3Right.j1 k false x123000 x123001 x123002 x123003 x123004))) else (if x123000=5 then (if (x123003.length:Int)=(x123004.length:Int) then ((spec_l3Keys.f k x123003).bind fun t125=>(spec_l3Right.j1 k (!t125) x123000 x123001 x123002 x123003 x123004)) else (spec_l3Right.j1 k true x123000 x123001 x123002 x123003 x123004)) else (spec_l3Right.j1 k false x123000 x123001 x123002 x123003 x123004))) else (spec_l3Right.j1 k true x123000 x123001 x123002 x123003 x123004)) else (spec_l3Right.j1 k true x123000 x123001 x123002 x123003 x123004))
def spec_l3Right.j1:Nat→Bool→Int→Int→ByteArray→List ByteArray→List (S32)→Option (Bool)
 |0,_,_,_,_,_,_=>none
 |k+1,x52,x123000,x123001,x123002,x123003,x123004=>if x52=true then (some false) else (spec_l3Right.l0 k 0 x123000 x123001 x123002 x123003 x123004)
def spec_l3Right.l0:Nat→Int→Int→Int→ByteArray→List ByteArray→List (S32)→Option (Bool)
 |0,_,_,_,_,_,_=>none
 |k+1,x3,x123000,x123001,x123002,x123003,x123004=>if x3<(x123004.length:Int) then (if 0≤x3 then ((spec_l3Right.f k ((rd_T32 x123004 x3).f0) ((rd_T32 x123004 x3).f1) ((rd_T32 x123004 x3).f2) ((rd_T32 x123004 x3).f3) ((rd_T32 x123004 x3).f4)).bind fun t127=>(if t127=true then (spec_l3Right.l0 k (wrap64 (x3+1)) x123000 x123001 x123002 x123003 x123004) else (some false))) else (none)) else (some true)
def spec_l3Right.f:Nat→Int→Int→ByteArray→List ByteArray→List (S32)→Option (Bool)
 |0,_,_,_,_,_=>none
 |k+1,a0_0,a0_1,a0_2,l0_3,l0_4=>if a0_0=4 then (spec_l3Right.j0 k false a0_0 a0_1 a0_2 l0_3 l0_4) else (spec_l3Right.j0 k (a0_0 != 5) a0_0 a0_1 a0_2 l0_3 l0_4)
end
mutual
def spec_l3Size.l0:Nat→Int→Int→Int→Int→ByteArray→List ByteArray→List (S32)→Option (Int)
 |0,_,_,_,_,_,_,_=>none
 |k+1,x3,x4,x112000,x112001,x112002,x112003,x112004=>if x4<(x112004.length:Int) then (if 0≤x4 then ((spec_l3Size.f k ((rd_T32 x112004 x4).f0) ((rd_T32 x112004 x4).f1) ((rd_T32 x112004 x4).f2) ((rd_T32 x112004 x4).f3) ((rd_T32 x112004 x4).f4)).bind fun t113=>(spec_l3Size.l0 k (wrap64 (x3+t113)) (wrap64 (x4+1)) x112000 x112001 x112002 x112003 x112004)) else (none)) else (some x3)
def spec_l3Size.f:Nat→Int→Int→ByteArray→List ByteArray→List (S32)→Option (Int)
 |0,_,_,_,_,_=>none
 |k+1,a0_0,a0_1,a0_2,l0_3,l0_4=>spec_l3Size.l0 k 1 0 a0_0 a0_1 a0_2 l0_3 l0_4
end
def spec_TreeOk.f (k:Nat) (a0_0:Int) (a0_1:Int) (a0_2:ByteArray) (l0_3:List ByteArray) (l0_4:List (S32)):Option (Bool):=(spec_l3Deep.f k a0_0 a0_1 a0_2 l0_3 l0_4).bind fun t129=>(if t129≤8 then ((spec_l3Size.f k a0_0 a0_1 a0_2 l0_3 l0_4).bind fun t130=>(if t130≤200 then ((spec_l3Right.f k a0_0 a0_1 a0_2 l0_3 l0_4).bind fun t131=>(some t131)) else (some false))) else (some false))
def spec_Quote.l0:Nat→ByteArray→List Int→Int→Option (ByteArray)
 |0,_,_,_=>none
 |k+1,x0,x3,x4=>if x4<(x0.size:Int) then (if 0≤x4 then (if (bt x0 x4)=34 then (if x3.length<140737488355328 then ((some (x3 ++ [92]:List Int)).bind fun y1279=>(if y1279.length<140737488355328 then (spec_Quote.l0 k x0 (y1279 ++ [bt x0 x4]) (wrap64 (x4+1))) else (none))) else (none)) else (if (bt x0 x4)=92 then (if x3.length<140737488355328 then ((some (x3 ++ [92]:List Int)).bind fun y1285=>(if y1285.length<140737488355328 then (spec_Quote.l0 k x0 (y1285 ++ [bt x0 x4]) (wrap64 (x4+1))) else (none))) else (none)) else (if x3.length<140737488355328 then (spec_Quote.l0 k x0 (x3 ++ [bt x0 x4]) (wrap64 (x4+1))) else (none)))) else (none)) else (if x3.length<140737488355328 then (some (strOfNums (x3 ++ [34]))) else (none))
def spec_Quote.f (k:Nat) (a0:ByteArray):Option (ByteArray):=(spec_TextOk.f k a0).bind fun t1275=>(if t1275=true then (spec_Quote.l0 k a0 (([34]:List Int)) 0) else (some (⟨#[]⟩:ByteArray)))
mutual
def spec_l4Text.j0:Nat→ByteArray→ByteArray→Int→Int→ByteArray→List ByteArray→List (S32)→Option (ByteArray)
 |0,_,_,_,_,_,_,_=>none
 |k+1,x3,x4,x1298000,x1298001,x1298002,x1298003,x1298004=>spec_l4Text.l0 k x4 x3 0 x1298000 x1298001 x1298002 x1298003 x1298004
def spec_l4Text.l0:Nat→ByteArray→ByteArray→Int→Int→Int→ByteArray→List ByteArray→List (S32)→Option (ByteArray)
 |0,_,_,_,_,_,_,_,_=>none
 |k+1,x4,x5,x6,x1298000,x1298001,x1298002,x1298003,x1298004=>if x6<(x1298004.length:Int) then (if x6 > 0 then (if x5.size+1≤9223372036854775807 then (spec_l4Text.j2 k x4 (x5 ++ (⟨#[44]⟩:ByteArray)) x6 x1298000 x1298001 x1298002 x1298003 x1298004) else (none)) else (spec_l4Text.j2 k x4 x5 x6 x1298000 x1298001 x1298002 x1298003 x1298004)) else (if x5.size+x4.size≤9223372036854775807 then (some (x5 ++ x4)) else (none))
def spec_l4Text.j2:Nat→ByteArray→ByteArray→Int→Int→Int→ByteArray→List ByteArray→List (S32)→Option (ByteArray)
 |0,_,_,_,_,_,_,_,_=>none
 |k+1,x4,x5,x6,x1298000,x1298001,x1298002,x1298003,x1298004=>if x1298000=5 then (if 0≤x6 then (if x6<(x1298003.length:Int) then ((spec_Quote.f k (rdOf ByteArray.empty x1298003 x6)).bind fun t1301=>(if x5.size+t1301.size≤9223372036854775807 then (if (x5 ++ t1301).size+1≤9223372036854775807 then (if x6<(x1298004.length:Int) then ((spec_l4Text.f k ((rd_T32 x1298004 x6).f0) ((rd_T32 x1298004 x6).f1) ((rd_T32 x1298004 x6).f2) ((rd_T32 x1298004 x6).f3) ((rd_T32 x1298004 x6).f4)).bind fun t1303=>(if ((x5 ++ t1301) ++ (⟨#[58]⟩:ByteArray)).size+t1303.size≤9223372036854775807 then (spec_l4Text.l0 k x4 (((x5 ++ t1301) ++ (⟨#[58]⟩:ByteArray)) ++ t1303) (wrap64 (x6+1)) x1298000 x1298001 x1298002 x1298003 x1298004) else (none))) else (none)) else (none)) else (none))) else (none)) else (none)) else (if 0≤x6 then (if x6<(x1298004.length:Int) then ((spec_l4Text.f k ((rd_T32 x1298004 x6).f0) ((rd_T32 x1298004 x6).f1) ((rd_T32 x1298004 x6).f2) ((rd_T32 x1298004 x6).f3) ((rd_T32 x1298004 x6).f4)).bind fun t1305=>(if x5.size+t1305.size≤9223372036854775807 then (spec_l4Text.l0 k x4 (x5 ++ t1305) (wrap64 (x6+1)) x1298000 x1298001 x1298002 x1298003 x1298004) else (none))) else (none)) else (none))
def spec_l4Text.f:Nat→Int→Int→ByteArray→List ByteArray→List (S32)→Option (ByteArray)
 |0,_,_,_,_,_=>none
 |k+1,a0_0,a0_1,a0_2,l0_3,l0_4=>if a0_0=0 then (some (⟨#[110,117,108,108]⟩:ByteArray)) else (if a0_0=1 then (if a0_1=1 then (some (⟨#[116,114,117,101]⟩:ByteArray)) else (some (⟨#[102,97,108,115,101]⟩:ByteArray))) else (if a0_0=2 then ((spec_Digits.f k a0_1).bind fun t1298=>(some t1298)) else (if a0_0=3 then ((spec_Quote.f k a0_2).bind fun t1299=>(some t1299)) else (if a0_0=5 then (spec_l4Text.j0 k (⟨#[123]⟩:ByteArray) (⟨#[125]⟩:ByteArray) a0_0 a0_1 a0_2 l0_3 l0_4) else (spec_l4Text.j0 k (⟨#[91]⟩:ByteArray) (⟨#[93]⟩:ByteArray) a0_0 a0_1 a0_2 l0_3 l0_4)))))
end
def spec_Braced.f (k:Nat) (a0_0:Int) (a0_1:Int) (a0_2:ByteArray) (l0_3:List ByteArray) (l0_4:List (S32)):Option (ByteArray):=(spec_TreeOk.f k a0_0 a0_1 a0_2 l0_3 l0_4).bind fun t1307=>(if t1307=true then ((spec_l4Text.f k a0_0 a0_1 a0_2 l0_3 l0_4).bind fun t1308=>(some t1308)) else (some (⟨#[]⟩:ByteArray)))
def spec_PaceNew.f:Option (Int × Int × Int × Int):=some (0,0,0,300)
def spec_l8Saved.f (k:Nat) (a0_0:ByteArray) (a0_1:ByteArray) (a0_2:Int) (a0_3:Int) (l0_4:List (S61)) (a0_5:Int) (a0_6:Int) (a0_7:Int) (a0_8:Int) (l0_9:List (S124)):Option (Int × Int × ByteArray × List ByteArray × (List (S32))):=(spec_l7Notes.f k l0_9).bind fun bt1312=>((spec_PaceNew.f).bind fun bt1322=>(if (!(a0_5 == bt1322.1) || (!(a0_6 == bt1322.2.1) || (!(a0_7 == bt1322.2.2.1) || (!(a0_8 == bt1322.2.2.2)))))=true then ((spec_PaceTree.f k a0_5 a0_6 a0_7 a0_8).bind fun bt1326=>((spec_Braced.f k bt1326.1 bt1326.2.1 bt1326.2.2.1 bt1326.2.2.2.1 bt1326.2.2.2.2).bind fun t1335=>((spec_TextOf.f t1335).bind fun bt1336=>((spec_Set.f bt1312.1 bt1312.2.1 bt1312.2.2.1 bt1312.2.2.2.1 bt1312.2.2.2.2 (⟨#[113,117,97,121,47,112,97,99,101]⟩:ByteArray) bt1336.1 bt1336.2.1 bt1336.2.2.1 bt1336.2.2.2.1 bt1336.2.2.2.2).bind fun bt1345=>(some (bt1345.1,bt1345.2.1,bt1345.2.2.1,bt1345.2.2.2.1,bt1345.2.2.2.2)))))) else (some (bt1312.1,bt1312.2.1,bt1312.2.2.1,bt1312.2.2.2.1,bt1312.2.2.2.2))))
def spec_MidTree.f (k:Nat) (a0_0:ByteArray) (a0_1:ByteArray) (a0_2:Int) (a0_3:Int) (l0_4:List (S61)) (a0_5:Int) (a0_6:Int) (a0_7:Int) (a0_8:Int) (l0_9:List (S124)):Option (Int × Int × ByteArray × List ByteArray × (List (S32))):=(spec_OrderOk.f k a0_0 a0_1 a0_2 a0_3 l0_4 a0_5 a0_6 a0_7 a0_8 l0_9).bind fun t1356=>(if t1356=true then ((spec_l7Head.f k a0_0 a0_1 a0_2 a0_3 l0_4 a0_5 a0_6 a0_7 a0_8 l0_9 (⟨#[109,105,100,100,108,101]⟩:ByteArray)).bind fun bt1357=>((spec_l7Metrics.f k l0_4).bind fun bt1366=>((spec_Set.f bt1357.1 bt1357.2.1 bt1357.2.2.1 bt1357.2.2.2.1 bt1357.2.2.2.2 (⟨#[109,101,116,114,105,99,115]⟩:ByteArray) bt1366.1 bt1366.2.1 bt1366.2.2.1 bt1366.2.2.2.1 bt1366.2.2.2.2).bind fun bt1375=>((spec_l8Saved.f k a0_0 a0_1 a0_2 a0_3 l0_4 a0_5 a0_6 a0_7 a0_8 l0_9).bind fun bt1385=>((spec_Set.f bt1375.1 bt1375.2.1 bt1375.2.2.1 bt1375.2.2.2.1 bt1375.2.2.2.2 (⟨#[110,111,116,101,115]⟩:ByteArray) bt1385.1 bt1385.2.1 bt1385.2.2.1 bt1385.2.2.2.1 bt1385.2.2.2.2).bind fun bt1394=>(some (bt1394.1,bt1394.2.1,bt1394.2.2.1,bt1394.2.2.2.1,bt1394.2.2.2.2))))))) else (some (0,0,(⟨#[]⟩:ByteArray),([]:List ByteArray),([]:List (S32)))))
end
end Go.Proofs.YtdlhidjphaaklaaGreat.P
end
section
namespace Go.Proofs.YtdlhidjphaaklaaGreat.V
open Go Go.RowKit Go.Proofs.YtdlhidjphaaklaaGreat Go.Proofs.YtdlhidjphaaklaaGreat.P Go.Proofs.YtdlhidjphaaklaaGreatW
set_option maxRecDepth 100000
attribute [local irreducible] thenQ blockQ AWP AOps FinQ Draw One PrintWords.bt
abbrev laws_szMetric_P:Prop:=∀ {a0_0:ByteArray} {a0_1:Int} {a0_2:Int} {a1:Int} {r:Int} (H:laws_szMetric.f a0_0 a0_1 a0_2 a1=some r),Fn Tryz.prog 108 [.agg [.val (.string a0_0),.val (.int .i64 a0_1),.val (.int .i64 a0_2)],.val (.int .i64 a1)] [] (.val (.int .i64 r)) []
abbrev laws_szMetricS_P:Prop:=∀ {k:Nat} {l0:List (S113)} {a1:Int} {r:Int} (H:laws_szMetricS.f k l0 a1=some r),Fn Tryz.prog 51 [.row (l0.map (c113)) .no,.val (.int .i64 a1)] [] (.val (.int .i64 r)) []
abbrev laws_szNote_P:Prop:=∀ {a0_0:ByteArray} {a0_1:ByteArray} {a1:Int} {r:Int} (H:laws_szNote.f a0_0 a0_1 a1=some r),Fn Tryz.prog 109 [.agg [.val (.string a0_0),.val (.string a0_1)],.val (.int .i64 a1)] [] (.val (.int .i64 r)) []
abbrev laws_szNoteS_P:Prop:=∀ {k:Nat} {l0:List (S116)} {a1:Int} {r:Int} (H:laws_szNoteS.f k l0 a1=some r),Fn Tryz.prog 52 [.row (l0.map (c116)) .no,.val (.int .i64 a1)] [] (.val (.int .i64 r)) []
abbrev laws_szOrder_P:Prop:=∀ {k:Nat} {a0_0:ByteArray} {a0_1:ByteArray} {a0_2:Int} {a0_3:Int} {l0_4:List (S113)} {a0_5:Int} {a0_6:Int} {a0_7:Int} {a0_8:Int} {l0_9:List (S116)} {a1:Int} {r:Int} (H:laws_szOrder.f k a0_0 a0_1 a0_2 a0_3 l0_4 a0_5 a0_6 a0_7 a0_8 l0_9 a1=some r),Fn Tryz.prog 17 [.agg [.val (.string a0_0),.val (.string a0_1),.val (.int .i64 a0_2),.val (.int .i64 a0_3),.row (l0_4.map (c113)) .no,.val (.int .i64 a0_5),.val (.int .i64 a0_6),.val (.int .i64 a0_7),.val (.int .i64 a0_8),.row (l0_9.map (c116)) .no],.val (.int .i64 a1)] [] (.val (.int .i64 r)) []
abbrev laws_eqMetric_P:Prop:=∀ {a0_0:ByteArray} {a0_1:Int} {a0_2:Int} {a1_0:ByteArray} {a1_1:Int} {a1_2:Int} {r:Bool} (H:laws_eqMetric.f a0_0 a0_1 a0_2 a1_0 a1_1 a1_2=some r),Fn Tryz.prog 45 [.agg [.val (.string a0_0),.val (.int .i64 a0_1),.val (.int .i64 a0_2)],.agg [.val (.string a1_0),.val (.int .i64 a1_1),.val (.int .i64 a1_2)]] [] (.val (.bool r)) []
abbrev laws_eqMetricS_P:Prop:=∀ {k:Nat} {l0:List (S61)} {l1:List (S61)} {r:Bool} (H:laws_eqMetricS.f k l0 l1=some r),Fn Tryz.prog 12 [.row (l0.map (c61)) .no,.row (l1.map (c61)) .no] [] (.val (.bool r)) []
abbrev laws_eqNote_P:Prop:=∀ {a0_0:ByteArray} {a0_1:ByteArray} {a1_0:ByteArray} {a1_1:ByteArray} {r:Bool} (H:laws_eqNote.f a0_0 a0_1 a1_0 a1_1=some r),Fn Tryz.prog 133 [.agg [.val (.string a0_0),.val (.string a0_1)],.agg [.val (.string a1_0),.val (.string a1_1)]] [] (.val (.bool r)) []
abbrev laws_eqNoteS_P:Prop:=∀ {k:Nat} {l0:List (S124)} {l1:List (S124)} {r:Bool} (H:laws_eqNoteS.f k l0 l1=some r),Fn Tryz.prog 69 [.row (l0.map (c124)) .no,.row (l1.map (c124)) .no] [] (.val (.bool r)) []
abbrev laws_eqPace_P:Prop:=∀ {a0_0:Int} {a0_1:Int} {a0_2:Int} {a0_3:Int} {a1_0:Int} {a1_1:Int} {a1_2:Int} {a1_3:Int} {r:Bool} (H:laws_eqPace.f a0_0 a0_1 a0_2 a0_3 a1_0 a1_1 a1_2 a1_3=some r),Fn Tryz.prog 68 [.agg [.val (.int .i64 a0_0),.val (.int .i64 a0_1),.val (.int .i64 a0_2),.val (.int .i64 a0_3)],.agg [.val (.int .i64 a1_0),.val (.int .i64 a1_1),.val (.int .i64 a1_2),.val (.int .i64 a1_3)]] [] (.val (.bool r)) []
abbrev laws_eqOrder_P:Prop:=∀ {k:Nat} {a0_0:ByteArray} {a0_1:ByteArray} {a0_2:Int} {a0_3:Int} {l0_4:List (S61)} {a0_5:Int} {a0_6:Int} {a0_7:Int} {a0_8:Int} {l0_9:List (S124)} {a1_0:ByteArray} {a1_1:ByteArray} {a1_2:Int} {a1_3:Int} {l1_4:List (S61)} {a1_5:Int} {a1_6:Int} {a1_7:Int} {a1_8:Int} {l1_9:List (S124)} {r:Bool} (H:laws_eqOrder.f k a0_0 a0_1 a0_2 a0_3 l0_4 a0_5 a0_6 a0_7 a0_8 l0_9 a1_0 a1_1 a1_2 a1_3 l1_4 a1_5 a1_6 a1_7 a1_8 l1_9=some r),Fn Tryz.prog 21 [.agg [.val (.string a0_0),.val (.string a0_1),.val (.int .i64 a0_2),.val (.int .i64 a0_3),.row (l0_4.map (c61)) .no,.val (.int .i64 a0_5),.val (.int .i64 a0_6),.val (.int .i64 a0_7),.val (.int .i64 a0_8),.row (l0_9.map (c124)) .no],.agg [.val (.string a1_0),.val (.string a1_1),.val (.int .i64 a1_2),.val (.int .i64 a1_3),.row (l1_4.map (c61)) .no,.val (.int .i64 a1_5),.val (.int .i64 a1_6),.val (.int .i64 a1_7),.val (.int .i64 a1_8),.row (l1_9.map (c124)) .no]] [] (.val (.bool r)) []
abbrev laws_eqStringS_P:Prop:=∀ {k:Nat} {l0:List ByteArray} {l1:List ByteArray} {r:Bool} (H:laws_eqStringS.f k l0 l1=some r),Fn Tryz.prog 46 [.row (l0.map (cS)) .no,.row (l1.map (cS)) .no] [] (.val (.bool r)) []
abbrev laws_markText_P:Prop:=∀ {k:Nat} {a0:Int} {r:ByteArray} (H:laws_markText.f k a0=some r),Fn Tryz.prog 50 [.val (.int .i64 a0)] [] (.val (.string r)) []
abbrev laws_heldStringS_P:Prop:=∀ {k:Nat} {l0:List ByteArray} {a1:Int} {r:Int} (H:laws_heldStringS.f k l0 a1=some r),Fn Tryz.prog 71 [.row (l0.map (cS)) .no,.val (.int .i64 a1)] [] (.val (.int .i64 r)) []
set_option maxHeartbeats 16000000 in
theorem grp_laws_szMetric:(laws_szMetric_P)∧(laws_szMetric_P→laws_szMetricS_P)∧(laws_szNote_P)∧(laws_szNote_P→laws_szNoteS_P)∧(laws_szMetricS_P→laws_szNoteS_P→laws_szOrder_P)∧(laws_eqMetric_P)∧(laws_eqMetric_P→laws_eqMetricS_P)∧(laws_eqNote_P)∧(laws_eqNote_P→laws_eqNoteS_P)∧(laws_eqPace_P)∧(laws_eqMetricS_P→laws_eqNoteS_P→laws_eqPace_P→laws_eqOrder_P)∧(laws_eqStringS_P)∧(laws_markText_P)∧(laws_markText_P→laws_heldStringS_P):=by
 refine ⟨?_,?_,?_,?_,?_,?_,?_,?_,?_,?_,?_,?_,?_,?_⟩
 intro a0_0 a0_1 a0_2 a1 r H; refine w_fn (n:=13) Tryz.func108 rfl rfl rfl rfl rfl ?_; unfold laws_szMetric.f at H; try dsimp only at H
 rotate_left
 intro q_laws_szMetric k l0 a1 r H; refine w_fn (n:=27) Tryz.func51 rfl rfl rfl rfl rfl ?_; unfold laws_szMetricS.f at H; try dsimp only at H
 rotate_left
 intro a0_0 a0_1 a1 r H; refine w_fn (n:=20) Tryz.func109 rfl rfl rfl rfl rfl ?_; unfold laws_szNote.f at H; try dsimp only at H
 rotate_left
 intro q_laws_szNote k l0 a1 r H; refine w_fn (n:=27) Tryz.func52 rfl rfl rfl rfl rfl ?_; unfold laws_szNoteS.f at H; try dsimp only at H
 rotate_left
 intro q_laws_szMetricS q_laws_szNoteS k a0_0 a0_1 a0_2 a0_3 l0_4 a0_5 a0_6 a0_7 a0_8 l0_9 a1 r H; refine w_fn (n:=32) Tryz.func17 rfl rfl rfl rfl rfl ?_; unfold laws_szOrder.f at H; try dsimp only at H
 rotate_left
 intro a0_0 a0_1 a0_2 a1_0 a1_1 a1_2 r H; refine w_fn (n:=20) Tryz.func45 rfl rfl rfl rfl rfl ?_; unfold laws_eqMetric.f at H; try dsimp only at H
 rotate_left
 intro q_laws_eqMetric k l0 l1 r H; refine w_fn (n:=27) Tryz.func12 rfl rfl rfl rfl rfl ?_; unfold laws_eqMetricS.f at H; try dsimp only at H
 rotate_left
 intro a0_0 a0_1 a1_0 a1_1 r H; refine w_fn (n:=15) Tryz.func133 rfl rfl rfl rfl rfl ?_; unfold laws_eqNote.f at H; try dsimp only at H
 rotate_left
 intro q_laws_eqNote k l0 l1 r H; refine w_fn (n:=27) Tryz.func69 rfl rfl rfl rfl rfl ?_; unfold laws_eqNoteS.f at H; try dsimp only at H
 rotate_left
 intro a0_0 a0_1 a0_2 a0_3 a1_0 a1_1 a1_2 a1_3 r H; refine w_fn (n:=25) Tryz.func68 rfl rfl rfl rfl rfl ?_; unfold laws_eqPace.f at H; try dsimp only at H
 rotate_left
 intro q_laws_eqMetricS q_laws_eqNoteS q_laws_eqPace k a0_0 a0_1 a0_2 a0_3 l0_4 a0_5 a0_6 a0_7 a0_8 l0_9 a1_0 a1_1 a1_2 a1_3 l1_4 a1_5 a1_6 a1_7 a1_8 l1_9 r H; refine w_fn (n:=43) Tryz.func21 rfl rfl rfl rfl rfl ?_; unfold laws_eqOrder.f at H; try dsimp only at H
 rotate_left
 intro k l0 l1 r H; refine w_fn (n:=26) Tryz.func46 rfl rfl rfl rfl rfl ?_; unfold laws_eqStringS.f at H; try dsimp only at H
 rotate_left
 intro k a0 r H; refine w_fn (n:=20) Tryz.func50 rfl rfl rfl rfl rfl ?_; unfold laws_markText.f at H; try dsimp only at H
 rotate_left
 intro q_laws_markText k l0 a1 r H; refine w_fn (n:=22) Tryz.func71 rfl rfl rfl rfl rfl ?_; unfold laws_heldStringS.f at H; try dsimp only at H
 rotate_left
 repeat' first
  |exact WB.nil _
  |refine WB.cons ?_ ?_
  |exact WL.nil
  |refine WL.cons ?_ ?_
  |exact W1.same _
  |exact W1.no _ _
  |exact W1.any _ rfl
  |exact sub3_nil
  |refine sub3_cons rfl ?_ ?_
  |rfl
  |(refine one_id ?_; first
   |refine s_move rfl ?_
   |refine s_load rfl rfl rfl ?_
   |refine s_fldb rfl ?_
   |refine s_add64 rfl rfl ?_
   |refine s_sub64 rfl rfl ?_
   |refine s_bin rfl rfl rfl ?_
   |refine s_assign rfl ?_
   |refine s_loadr rfl rfl rfl ?_
   |refine s_not rfl ?_
   |refine s_lens rfl ?_
   |refine s_lenm rfl ?_
   |refine s_ix113 rfl rfl ‹_› ‹_› rfl ?_
   |(refine s_ix113 rfl rfl ?_ ?_ rfl ?_; (focus (first|assumption|decide|omega)); (focus (first|assumption|decide|omega)))
   |refine s_ix116 rfl rfl ‹_› ‹_› rfl ?_
   |(refine s_ix116 rfl rfl ?_ ?_ rfl ?_; (focus (first|assumption|decide|omega)); (focus (first|assumption|decide|omega)))
   |refine s_ix61 rfl rfl ‹_› ‹_› rfl ?_
   |(refine s_ix61 rfl rfl ?_ ?_ rfl ?_; (focus (first|assumption|decide|omega)); (focus (first|assumption|decide|omega)))
   |refine s_ix124 rfl rfl ‹_› ‹_› rfl ?_
   |(refine s_ix124 rfl rfl ?_ ?_ rfl ?_; (focus (first|assumption|decide|omega)); (focus (first|assumption|decide|omega)))
   |refine s_ixS rfl rfl ‹_› ‹_› rfl ?_
   |(refine s_ixS rfl rfl ?_ ?_ rfl ?_; (focus (first|assumption|decide|omega)); (focus (first|assumption|decide|omega)))
   |refine s_conv rfl ?_
   |refine s_tostrl rfl ?_
   |refine s_lit rfl rfl rfl rfl ?_
   |(refine s_cat rfl rfl ?_ ?_; (focus (first|assumption|omega)))
   |(have hb:=Option.bind_eq_some_iff.1 H; clear H; obtain ⟨t,hA,H⟩:=hb; refine s_call rfl (by first|exact q_laws_szMetric hA|exact q_laws_szMetricS hA|exact q_laws_szNote hA|exact q_laws_szNoteS hA|exact q_laws_eqMetric hA|exact q_laws_eqMetricS hA|exact q_laws_eqNote hA|exact q_laws_eqNoteS hA|exact q_laws_eqPace hA|exact q_laws_markText hA) (by first|rfl|(simp only [L25_eq,L32_eq,c25_eq,c32_eq]; rfl)|(simp only [List.map_cons,List.map_nil,L25_eq,L32_eq,c25_eq,c32_eq]; rfl)) rfl rfl rfl ?_)
   )
  |(refine q_id ?_; first
   |refine q_box rfl rfl rfl rfl rfl rfl rfl ?_
   |refine q_one rfl rfl rfl rfl rfl ?_
   |refine q_nil rfl ?_
   )
  |(refine w_id ?_; first
   |refine w_seq rfl ?_
   |refine w_region rfl ?_
   |refine w_block rfl ?_
   |refine w_ret rfl ?_
   |refine w_skip rfl ?_
   |refine w_exit rfl ?_
   |(refine w_true rfl rfl ?_ ?_; focus (first|with_reducible rfl|(simp only [Bool.not_true,Bool.not_false]; done)))
   |(refine w_false rfl rfl ?_ ?_; focus (first|with_reducible rfl|(simp only [Bool.not_true,Bool.not_false]; done)))
   |(refine w_loop3 (fun (v:(List (S113)) × (Int) × (Int))=>⟨27,[(0,.row (v.1.map c113) .no),(1,.val (.int .i64 v.2.1)),(5,.val (.int .i64 v.2.2))],[],[]⟩) (fun k v=>laws_szMetricS.l0 k v.1 v.2.1 v.2.2) _ (_,_,_) rfl (fun _=>rfl) (fun _ _=>rfl) ⟨rfl,?_,?_,rfl,?_,rfl,rfl⟩ rfl H ?_; rotate_right; clear H; rintro k ⟨x0,x1,x5⟩ hk H; simp only [laws_szMetricS.l0] at H; dsimp only)
   |(refine w_loop3 (fun (v:(List (S116)) × (Int) × (Int))=>⟨27,[(0,.row (v.1.map c116) .no),(1,.val (.int .i64 v.2.1)),(5,.val (.int .i64 v.2.2))],[],[]⟩) (fun k v=>laws_szNoteS.l0 k v.1 v.2.1 v.2.2) _ (_,_,_) rfl (fun _=>rfl) (fun _ _=>rfl) ⟨rfl,?_,?_,rfl,?_,rfl,rfl⟩ rfl H ?_; rotate_right; clear H; rintro k ⟨x0,x1,x5⟩ hk H; simp only [laws_szNoteS.l0] at H; dsimp only)
   |refine w_draw (c:=cl (cl (cl (cr (cl (cl (cr (cl (cr (cr (bo Tryz.f12))))))))))) 10 [] rfl (by kernel_rfl) rfl ?_
   |(refine w_loop3 (fun (v:(List (S61)) × (List (S61)) × (Int))=>⟨27,[(0,.row (v.1.map c61) .no),(1,.row (v.2.1.map c61) .no),(5,.val (.int .i64 v.2.2))],[],[]⟩) (fun k v=>laws_eqMetricS.l0 k v.1 v.2.1 v.2.2) _ (_,_,_) rfl (fun _=>rfl) (fun _ _=>rfl) ⟨rfl,?_,?_,rfl,?_,rfl,rfl⟩ rfl H ?_; rotate_right; clear H; rintro k ⟨x0,x1,x5⟩ hk H; simp only [laws_eqMetricS.l0] at H; dsimp only)
   |refine w_draw (c:=cl (cl (cl (cr (cl (cl (cr (cl (cr (cr (bo Tryz.f69))))))))))) 10 [] rfl (by kernel_rfl) rfl ?_
   |(refine w_loop3 (fun (v:(List (S124)) × (List (S124)) × (Int))=>⟨27,[(0,.row (v.1.map c124) .no),(1,.row (v.2.1.map c124) .no),(5,.val (.int .i64 v.2.2))],[],[]⟩) (fun k v=>laws_eqNoteS.l0 k v.1 v.2.1 v.2.2) _ (_,_,_) rfl (fun _=>rfl) (fun _ _=>rfl) ⟨rfl,?_,?_,rfl,?_,rfl,rfl⟩ rfl H ?_; rotate_right; clear H; rintro k ⟨x0,x1,x5⟩ hk H; simp only [laws_eqNoteS.l0] at H; dsimp only)
   |refine w_draw (c:=cl (cl (cl (cr (cl (cl (cr (cl (cr (cr (bo Tryz.f46))))))))))) 9 [] rfl (by kernel_rfl) rfl ?_
   |(refine w_loop3 (fun (v:(List ByteArray) × (List ByteArray) × (Int))=>⟨26,[(0,.row (v.1.map cS) .no),(1,.row (v.2.1.map cS) .no),(5,.val (.int .i64 v.2.2))],[],[]⟩) (fun k v=>laws_eqStringS.l0 k v.1 v.2.1 v.2.2) _ (_,_,_) rfl (fun _=>rfl) (fun _ _=>rfl) ⟨rfl,?_,?_,rfl,?_,rfl,rfl⟩ rfl H ?_; rotate_right; clear H; rintro k ⟨x0,x1,x5⟩ hk H; simp only [laws_eqStringS.l0] at H; dsimp only)
   |(refine w_loop3 (fun (v:(Int) × (ByteArray))=>⟨20,[(0,.val (.int .i64 v.1)),(3,.val (.string v.2))],[],[]⟩) (fun k v=>laws_markText.l0 k v.1 v.2) _ (_,_) rfl (fun _=>rfl) (fun _ _=>rfl) ⟨rfl,?_,?_,rfl,?_,rfl,rfl⟩ rfl H ?_; rotate_right; clear H; rintro k ⟨x0,x3⟩ hk H; simp only [laws_markText.l0] at H; dsimp only)
   |refine w_draw (c:=cl (cl (cl (cl (cr (cl (cl (cr (cl (cr (bo Tryz.f71))))))))))) 7 [] rfl (by kernel_rfl) rfl ?_
   |(refine w_loop3 (fun (v:(List ByteArray) × (Int) × (Int))=>⟨22,[(0,.row (v.1.map cS) .no),(1,.val (.int .i64 v.2.1)),(5,.val (.int .i64 v.2.2))],[],[]⟩) (fun k v=>laws_heldStringS.l0 k v.1 v.2.1 v.2.2) _ (_,_,_) rfl (fun _=>rfl) (fun _ _=>rfl) ⟨rfl,?_,?_,rfl,?_,rfl,rfl⟩ rfl H ?_; rotate_right; clear H; rintro k ⟨x0,x1,x5⟩ hk H; simp only [laws_heldStringS.l0] at H; dsimp only)
   )
  |(refine t_id ?_; first
   |refine t_norm ?_
   |refine t_exit ?_
   |refine t_ret ?_
   )
  |(refine b_id ?_; first
   |refine b_here ?_
   |refine b_norm ?_
   |refine b_ret ?_
   )
  |(refine e_id ?_; first
   |refine e_one rfl rfl rfl rfl rfl ?_
   |refine e_end rfl ?_
   )
  |(simp (disch:=assumption) only [decide_eq_true,decide_eq_false])
  |(refine ⟨_,(_,_,_),?_,?_,H⟩; (focus omega); refine ⟨rfl,?_,?_,rfl,?_,rfl,rfl⟩)
  |(refine ⟨_,(_,_),?_,?_,H⟩; (focus omega); refine ⟨rfl,?_,?_,rfl,?_,rfl,rfl⟩)
  |(obtain rfl:=Option.some.inj H)
  |exact fq1b (.inr rfl) rfl (by first|exact res_tmp rfl|exact res_cell rfl rfl rfl) rfl rfl rfl (.inl rfl)
  |exact fq1b (.inr rfl) rfl (by first|exact res_tmp rfl|exact res_cell rfl rfl rfl) rfl rfl rfl (.inr ⟨_,_,rfl,by decide⟩)
  |exact W1.same _
  |exact W1.no _ _
  |exact W1.any _ rfl
  |exact sub3_nil
  |(refine sub3_cons rfl ?_ ?_)
  |(simp only [lit_list,wrapK_i64,wrapK_i32,wrapK_u8,wrap64_u8,Int.reduceToNat,Int.toNat_natCast])
  |(simp only [List.map_append,List.map_cons,List.map_nil,Int.zero_sub,wrapK_u8,wrap64_u8,L25_eq,L32_eq,c25_eq,c32_eq]; first|exact W1.same _|exact W1.no _ _|exact W1.any _ rfl)
  |(simp only [List.length_append,List.length_map,List.length_cons,List.length_nil]; rfl)
  |(simp (disch:=assumption) only [if_pos,if_neg] at H)
  |(simp only [Option.bind_some] at H)
  |(simp only [beq_dec,bne_dec,decide_eq_true_eq] at H)
  |(have hh:=ite_none_ H; clear H; obtain ⟨hc,H⟩:=hh)
  |(have hh:=ite_none2_ H; clear H; obtain ⟨hc,H⟩:=hh)
  |(refine (ite_some_ H).elim (fun hh=>?_) (fun hh=>?_)<;>clear H<;>obtain ⟨hc,H⟩:=hh<;>first|(cases H; done)|(cases hc; done)|(exact absurd rfl hc)|(subst hc; done)|rw [decide_eq_true hc]|rw [decide_eq_false hc]|rw [@decide_eq_true _ (_) hc]|rw [@decide_eq_false _ (_) hc]|subst hc|(obtain rfl:=Bool.eq_false_iff.2 hc)|rw [hc]|rw [Bool.eq_false_iff.2 hc])
  |(simp only [bne_dec,beq_dec])
theorem laws_szMetric_fn:laws_szMetric_P:=grp_laws_szMetric.1
theorem laws_szMetricS_fn:laws_szMetricS_P:=grp_laws_szMetric.2.1 laws_szMetric_fn
theorem laws_szNote_fn:laws_szNote_P:=grp_laws_szMetric.2.2.1
theorem laws_szNoteS_fn:laws_szNoteS_P:=grp_laws_szMetric.2.2.2.1 laws_szNote_fn
theorem laws_szOrder_fn:laws_szOrder_P:=grp_laws_szMetric.2.2.2.2.1 laws_szMetricS_fn laws_szNoteS_fn
theorem laws_eqMetric_fn:laws_eqMetric_P:=grp_laws_szMetric.2.2.2.2.2.1
theorem laws_eqMetricS_fn:laws_eqMetricS_P:=grp_laws_szMetric.2.2.2.2.2.2.1 laws_eqMetric_fn
theorem laws_eqNote_fn:laws_eqNote_P:=grp_laws_szMetric.2.2.2.2.2.2.2.1
theorem laws_eqNoteS_fn:laws_eqNoteS_P:=grp_laws_szMetric.2.2.2.2.2.2.2.2.1 laws_eqNote_fn
theorem laws_eqPace_fn:laws_eqPace_P:=grp_laws_szMetric.2.2.2.2.2.2.2.2.2.1
theorem laws_eqOrder_fn:laws_eqOrder_P:=grp_laws_szMetric.2.2.2.2.2.2.2.2.2.2.1 laws_eqMetricS_fn laws_eqNoteS_fn laws_eqPace_fn
theorem laws_eqStringS_fn:laws_eqStringS_P:=grp_laws_szMetric.2.2.2.2.2.2.2.2.2.2.2.1
theorem laws_markText_fn:laws_markText_P:=grp_laws_szMetric.2.2.2.2.2.2.2.2.2.2.2.2.1
theorem laws_heldStringS_fn:laws_heldStringS_P:=grp_laws_szMetric.2.2.2.2.2.2.2.2.2.2.2.2.2 laws_markText_fn
set_option maxHeartbeats 8000000 in
theorem laws_eqNodeS_all (k:Nat):(∀ {a0_0:Int} {a0_1:Int} {a0_2:ByteArray} {l0_3:List ByteArray} {l0_4:List (S32)} {a1_0:Int} {a1_1:Int} {a1_2:ByteArray} {l1_3:List ByteArray} {l1_4:List (S32)} {r:Bool} (H:laws_eqNode.f k a0_0 a0_1 a0_2 l0_3 l0_4 a1_0 a1_1 a1_2 l1_3 l1_4=some r),Fn Tryz.prog 13 [.agg [.val (.int .i64 a0_0),.val (.int .i64 a0_1),.val (.string a0_2),.row (l0_3.map (cS)) .no,.row (l0_4.map (c32)) .no],.agg [.val (.int .i64 a1_0),.val (.int .i64 a1_1),.val (.string a1_2),.row (l1_3.map (cS)) .no,.row (l1_4.map (c32)) .no]] [] (.val (.bool r)) [])∧(∀ {l0:List (S32)} {l1:List (S32)} {r:Bool} (H:laws_eqNodeS.f k l0 l1=some r),Fn Tryz.prog 47 [.row (l0.map (c32)) .no,.row (l1.map (c32)) .no] [] (.val (.bool r)) []):=by
 induction k using Nat.strongRecOn with
 |_ k ih =>
 cases k
 ·refine ⟨by intros; rename_i H; simp [laws_eqNode.f] at H,by intros; rename_i H; simp [laws_eqNodeS.f] at H⟩
 rename_i k
 refine ⟨?_,?_⟩
 ·intros; rename_i H
  refine w_fn (n:=32) Tryz.func13 rfl rfl rfl rfl rfl ?_
  unfold laws_eqNode.f at H; try dsimp only at H
  repeat' first
   |exact WB.nil _
   |refine WB.cons ?_ ?_
   |exact WL.nil
   |refine WL.cons ?_ ?_
   |exact W1.same _
   |exact W1.no _ _
   |exact W1.any _ rfl
   |exact sub3_nil
   |refine sub3_cons rfl ?_ ?_
   |rfl
   |(refine one_id ?_; first
    |refine s_move rfl ?_
    |refine s_load rfl rfl rfl ?_
    |refine s_fldb rfl ?_
    |refine s_add64 rfl rfl ?_
    |refine s_bin rfl rfl rfl ?_
    |refine s_assign rfl ?_
    |refine s_loadr rfl rfl rfl ?_
    |refine s_not rfl ?_
    |refine s_lenm rfl ?_
    |(have hb:=Option.bind_eq_some_iff.1 H; clear H; obtain ⟨t,hA,H⟩:=hb; refine s_call rfl (by first|exact laws_eqStringS_fn hA|exact (ih _ (by omega)).1 hA|exact (ih _ (by omega)).2 hA) (by first|rfl|(simp only [L25_eq,L32_eq,c25_eq,c32_eq]; rfl)|(simp only [List.map_cons,List.map_nil,L25_eq,L32_eq,c25_eq,c32_eq]; rfl)) rfl rfl rfl ?_)
    )
   |(refine q_id ?_; first
    |refine q_box rfl rfl rfl rfl rfl rfl rfl ?_
    |refine q_one rfl rfl rfl rfl rfl ?_
    |refine q_nil rfl ?_
    )
   |(refine w_id ?_; first
    |refine w_seq rfl ?_
    |refine w_region rfl ?_
    |refine w_block rfl ?_
    |refine w_ret rfl ?_
    |refine w_skip rfl ?_
    |refine w_exit rfl ?_
    |(refine w_true rfl rfl ?_ ?_; focus (first|with_reducible rfl|(simp only [Bool.not_true,Bool.not_false]; done)))
    |(refine w_false rfl rfl ?_ ?_; focus (first|with_reducible rfl|(simp only [Bool.not_true,Bool.not_false]; done)))
    )
   |(refine t_id ?_; first
    |refine t_norm ?_
    |refine t_exit ?_
    |refine t_ret ?_
    )
   |(refine b_id ?_; first
    |refine b_here ?_
    |refine b_norm ?_
    |refine b_ret ?_
    )
   |(simp (disch:=assumption) only [decide_eq_true,decide_eq_false])
   |(obtain rfl:=Option.some.inj H)
   |exact fq1b (.inr rfl) rfl (by first|exact res_tmp rfl|exact res_cell rfl rfl rfl) rfl rfl rfl (.inl rfl)
   |exact fq1b (.inr rfl) rfl (by first|exact res_tmp rfl|exact res_cell rfl rfl rfl) rfl rfl rfl (.inr ⟨_,_,rfl,by decide⟩)
   |exact W1.same _
   |exact W1.no _ _
   |exact W1.any _ rfl
   |exact sub3_nil
   |(refine sub3_cons rfl ?_ ?_)
   |(simp only [lit_list,wrapK_i64,wrapK_i32,wrapK_u8,wrap64_u8,Int.reduceToNat,Int.toNat_natCast])
   |(simp only [List.map_append,List.map_cons,List.map_nil,Int.zero_sub,wrapK_u8,wrap64_u8,L25_eq,L32_eq,c25_eq,c32_eq]; first|exact W1.same _|exact W1.no _ _|exact W1.any _ rfl)
   |(simp only [List.length_append,List.length_map,List.length_cons,List.length_nil]; rfl)
   |(simp (disch:=assumption) only [if_pos,if_neg] at H)
   |(simp only [Option.bind_some] at H)
   |(simp only [beq_dec,bne_dec,decide_eq_true_eq] at H)
   |(have hh:=ite_none_ H; clear H; obtain ⟨hc,H⟩:=hh)
   |(have hh:=ite_none2_ H; clear H; obtain ⟨hc,H⟩:=hh)
   |(refine (ite_some_ H).elim (fun hh=>?_) (fun hh=>?_)<;>clear H<;>obtain ⟨hc,H⟩:=hh<;>first|(cases H; done)|(cases hc; done)|(exact absurd rfl hc)|(subst hc; done)|rw [decide_eq_true hc]|rw [decide_eq_false hc]|rw [@decide_eq_true _ (_) hc]|rw [@decide_eq_false _ (_) hc]|subst hc|(obtain rfl:=Bool.eq_false_iff.2 hc)|rw [hc]|rw [Bool.eq_false_iff.2 hc])
   |(simp only [bne_dec,beq_dec])
 ·intros; rename_i H
  refine w_fn (n:=27) Tryz.func47 rfl rfl rfl rfl rfl ?_
  unfold laws_eqNodeS.f at H; try dsimp only at H
  repeat' first
   |exact WB.nil _
   |refine WB.cons ?_ ?_
   |exact WL.nil
   |refine WL.cons ?_ ?_
   |exact W1.same _
   |exact W1.no _ _
   |exact W1.any _ rfl
   |exact sub3_nil
   |refine sub3_cons rfl ?_ ?_
   |rfl
   |(refine one_id ?_; first
    |refine s_move rfl ?_
    |refine s_load rfl rfl rfl ?_
    |refine s_fldb rfl ?_
    |refine s_add64 rfl rfl ?_
    |refine s_bin rfl rfl rfl ?_
    |refine s_assign rfl ?_
    |refine s_loadr rfl rfl rfl ?_
    |refine s_not rfl ?_
    |refine s_lenm rfl ?_
    |refine s_ix32 rfl rfl ‹_› ‹_› rfl ?_
    |(refine s_ix32 rfl rfl ?_ ?_ rfl ?_; (focus (first|assumption|decide|omega)); (focus (first|assumption|decide|omega)))
    |(have hb:=Option.bind_eq_some_iff.1 H; clear H; obtain ⟨t,hA,H⟩:=hb; refine s_call rfl (by first|exact laws_eqStringS_fn hA|exact (ih _ (by omega)).1 hA|exact (ih _ (by omega)).2 hA) (by first|rfl|(simp only [L25_eq,L32_eq,c25_eq,c32_eq]; rfl)|(simp only [List.map_cons,List.map_nil,L25_eq,L32_eq,c25_eq,c32_eq]; rfl)) rfl rfl rfl ?_)
    )
   |(refine q_id ?_; first
    |refine q_one rfl rfl rfl rfl rfl ?_
    |refine q_nil rfl ?_
    )
   |(refine w_id ?_; first
    |refine w_seq rfl ?_
    |refine w_region rfl ?_
    |refine w_block rfl ?_
    |refine w_ret rfl ?_
    |refine w_skip rfl ?_
    |refine w_exit rfl ?_
    |(refine w_true rfl rfl ?_ ?_; focus (first|with_reducible rfl|(simp only [Bool.not_true,Bool.not_false]; done)))
    |(refine w_false rfl rfl ?_ ?_; focus (first|with_reducible rfl|(simp only [Bool.not_true,Bool.not_false]; done)))
    |refine w_draw (id:=6) 10 [] rfl (by kernel_rfl) rfl ?_
    |(refine w_loop3 (fun (v:(List (S32)) × (List (S32)) × (Int))=>⟨27,[(0,.row (v.1.map c32) .no),(1,.row (v.2.1.map c32) .no),(5,.val (.int .i64 v.2.2))],[],[]⟩) (fun k v=>laws_eqNodeS.l0 k v.1 v.2.1 v.2.2) _ (_,_,_) rfl (fun _=>rfl) (fun _ _=>rfl) ⟨rfl,?_,?_,rfl,?_,rfl,rfl⟩ rfl H ?_; rotate_right; clear H; rintro k ⟨x0,x1,x5⟩ hk H; simp only [laws_eqNodeS.l0] at H; dsimp only)
    )
   |(refine t_id ?_; first
    |refine t_norm ?_
    |refine t_exit ?_
    |refine t_ret ?_
    )
   |(refine b_id ?_; first
    |refine b_here ?_
    |refine b_norm ?_
    |refine b_ret ?_
    )
   |(refine e_id ?_; first
    |refine e_one rfl rfl rfl rfl rfl ?_
    |refine e_end rfl ?_
    )
   |(simp (disch:=assumption) only [decide_eq_true,decide_eq_false])
   |(refine ⟨_,(_,_,_),?_,?_,H⟩; (focus omega); refine ⟨rfl,?_,?_,rfl,?_,rfl,rfl⟩)
   |(obtain rfl:=Option.some.inj H)
   |exact fq1b (.inr rfl) rfl (by first|exact res_tmp rfl|exact res_cell rfl rfl rfl) rfl rfl rfl (.inl rfl)
   |exact fq1b (.inr rfl) rfl (by first|exact res_tmp rfl|exact res_cell rfl rfl rfl) rfl rfl rfl (.inr ⟨_,_,rfl,by decide⟩)
   |exact W1.same _
   |exact W1.no _ _
   |exact W1.any _ rfl
   |exact sub3_nil
   |(refine sub3_cons rfl ?_ ?_)
   |(simp only [lit_list,wrapK_i64,wrapK_i32,wrapK_u8,wrap64_u8,Int.reduceToNat,Int.toNat_natCast])
   |(simp only [List.map_append,List.map_cons,List.map_nil,Int.zero_sub,wrapK_u8,wrap64_u8,L25_eq,L32_eq,c25_eq,c32_eq]; first|exact W1.same _|exact W1.no _ _|exact W1.any _ rfl)
   |(simp only [List.length_append,List.length_map,List.length_cons,List.length_nil]; rfl)
   |(simp (disch:=assumption) only [if_pos,if_neg] at H)
   |(simp only [Option.bind_some] at H)
   |(simp only [beq_dec,bne_dec,decide_eq_true_eq] at H)
   |(have hh:=ite_none_ H; clear H; obtain ⟨hc,H⟩:=hh)
   |(have hh:=ite_none2_ H; clear H; obtain ⟨hc,H⟩:=hh)
   |(refine (ite_some_ H).elim (fun hh=>?_) (fun hh=>?_)<;>clear H<;>obtain ⟨hc,H⟩:=hh<;>first|(cases H; done)|(cases hc; done)|(exact absurd rfl hc)|(subst hc; done)|rw [decide_eq_true hc]|rw [decide_eq_false hc]|rw [@decide_eq_true _ (_) hc]|rw [@decide_eq_false _ (_) hc]|subst hc|(obtain rfl:=Bool.eq_false_iff.2 hc)|rw [hc]|rw [Bool.eq_false_iff.2 hc])
   |(simp only [bne_dec,beq_dec])
theorem laws_eqNode_fn {k:Nat} {a0_0:Int} {a0_1:Int} {a0_2:ByteArray} {l0_3:List ByteArray} {l0_4:List (S32)} {a1_0:Int} {a1_1:Int} {a1_2:ByteArray} {l1_3:List ByteArray} {l1_4:List (S32)} {r:Bool} (H:laws_eqNode.f k a0_0 a0_1 a0_2 l0_3 l0_4 a1_0 a1_1 a1_2 l1_3 l1_4=some r):Fn Tryz.prog 13 [.agg [.val (.int .i64 a0_0),.val (.int .i64 a0_1),.val (.string a0_2),.row (l0_3.map (cS)) .no,.row (l0_4.map (c32)) .no],.agg [.val (.int .i64 a1_0),.val (.int .i64 a1_1),.val (.string a1_2),.row (l1_3.map (cS)) .no,.row (l1_4.map (c32)) .no]] [] (.val (.bool r)) []:=(laws_eqNodeS_all k).1 H
set_option maxHeartbeats 4000000 in
theorem laws_heldNodeS_fn {k:Nat} {l0:List (S32)} {a1:Int} {r:Int} (H:laws_heldNodeS.f k l0 a1=some r):Fn Tryz.prog 72 [.row (l0.map (c32)) .no,.val (.int .i64 a1)] [] (.val (.int .i64 r)) []:=by
 induction k using Nat.strongRecOn generalizing l0 a1 r with
 |_ k ih =>
 cases k
 ·simp [laws_heldNodeS.f] at H
 rename_i k
 refine w_fn (n:=59) Tryz.func72 rfl rfl rfl rfl rfl ?_
 unfold laws_heldNodeS.f at H; try dsimp only at H
 repeat' first
  |exact WB.nil _
  |refine WB.cons ?_ ?_
  |exact WL.nil
  |refine WL.cons ?_ ?_
  |exact W1.same _
  |exact W1.no _ _
  |exact W1.any _ rfl
  |exact sub3_nil
  |refine sub3_cons rfl ?_ ?_
  |rfl
  |(refine one_id ?_; first
   |refine s_move rfl ?_
   |refine s_add64 rfl rfl ?_
   |refine s_bin rfl rfl rfl ?_
   |refine s_assign rfl ?_
   |refine s_loadr rfl rfl rfl ?_
   |refine s_fldr rfl ?_
   |refine s_lenm rfl ?_
   |refine s_ix32 rfl rfl ‹_› ‹_› rfl ?_
   |(refine s_ix32 rfl rfl ?_ ?_ rfl ?_; (focus (first|assumption|decide|omega)); (focus (first|assumption|decide|omega)))
   |(have hb:=Option.bind_eq_some_iff.1 H; clear H; obtain ⟨t,hA,H⟩:=hb; refine s_call rfl (by first|exact ih _ (by omega) hA|exact laws_heldStringS_fn hA|exact laws_markText_fn hA) (by first|rfl|(simp only [L25_eq,L32_eq,c25_eq,c32_eq]; rfl)|(simp only [List.map_cons,List.map_nil,L25_eq,L32_eq,c25_eq,c32_eq]; rfl)) rfl rfl rfl ?_)
   )
  |(refine q_id ?_; first
   |refine q_one rfl rfl rfl rfl rfl ?_
   |refine q_nil rfl ?_
   )
  |(refine w_id ?_; first
   |refine w_seq rfl ?_
   |refine w_region rfl ?_
   |refine w_block rfl ?_
   |refine w_ret rfl ?_
   |refine w_skip rfl ?_
   |refine w_exit rfl ?_
   |(refine w_true rfl rfl ?_ ?_; focus (first|with_reducible rfl|(simp only [Bool.not_true,Bool.not_false]; done)))
   |(refine w_false rfl rfl ?_ ?_; focus (first|with_reducible rfl|(simp only [Bool.not_true,Bool.not_false]; done)))
   |refine w_draw (id:=10) 8 [] rfl (by kernel_rfl) rfl ?_
   |(refine w_loop3 (fun (v:(List (S32)) × (Int) × (Int))=>⟨59,[(0,.row (v.1.map c32) .no),(1,.val (.int .i64 v.2.1)),(5,.val (.int .i64 v.2.2))],[],[]⟩) (fun k v=>laws_heldNodeS.l0 k v.1 v.2.1 v.2.2) _ (_,_,_) rfl (fun _=>rfl) (fun _ _=>rfl) ⟨rfl,?_,?_,rfl,?_,rfl,rfl⟩ rfl H ?_; rotate_right; clear H; rintro k ⟨x0,x1,x5⟩ hk H; simp only [laws_heldNodeS.l0] at H; dsimp only)
   )
  |(refine t_id ?_; first
   |refine t_norm ?_
   |refine t_exit ?_
   |refine t_ret ?_
   )
  |(refine b_id ?_; first
   |refine b_here ?_
   |refine b_norm ?_
   |refine b_ret ?_
   )
  |(refine e_id ?_; first
   |refine e_one rfl rfl rfl rfl rfl ?_
   |refine e_end rfl ?_
   )
  |(simp (disch:=assumption) only [decide_eq_true,decide_eq_false])
  |(refine ⟨_,(_,_,_),?_,?_,H⟩; (focus omega); refine ⟨rfl,?_,?_,rfl,?_,rfl,rfl⟩)
  |(obtain rfl:=Option.some.inj H)
  |exact fq1b (.inr rfl) rfl (by first|exact res_tmp rfl|exact res_cell rfl rfl rfl) rfl rfl rfl (.inl rfl)
  |exact fq1b (.inr rfl) rfl (by first|exact res_tmp rfl|exact res_cell rfl rfl rfl) rfl rfl rfl (.inr ⟨_,_,rfl,by decide⟩)
  |exact W1.same _
  |exact W1.no _ _
  |exact W1.any _ rfl
  |exact sub3_nil
  |(refine sub3_cons rfl ?_ ?_)
  |(simp only [lit_list,wrapK_i64,wrapK_i32,wrapK_u8,wrap64_u8,Int.reduceToNat,Int.toNat_natCast])
  |(simp only [List.map_append,List.map_cons,List.map_nil,Int.zero_sub,wrapK_u8,wrap64_u8,L25_eq,L32_eq,c25_eq,c32_eq]; first|exact W1.same _|exact W1.no _ _|exact W1.any _ rfl)
  |(simp only [List.length_append,List.length_map,List.length_cons,List.length_nil]; rfl)
  |(simp (disch:=assumption) only [if_pos,if_neg] at H)
  |(simp only [Option.bind_some] at H)
  |(simp only [beq_dec,bne_dec,decide_eq_true_eq] at H)
  |(have hh:=ite_none_ H; clear H; obtain ⟨hc,H⟩:=hh)
  |(have hh:=ite_none2_ H; clear H; obtain ⟨hc,H⟩:=hh)
  |(refine (ite_some_ H).elim (fun hh=>?_) (fun hh=>?_)<;>clear H<;>obtain ⟨hc,H⟩:=hh<;>first|(cases H; done)|(cases hc; done)|(exact absurd rfl hc)|(subst hc; done)|rw [decide_eq_true hc]|rw [decide_eq_false hc]|rw [@decide_eq_true _ (_) hc]|rw [@decide_eq_false _ (_) hc]|subst hc|(obtain rfl:=Bool.eq_false_iff.2 hc)|rw [hc]|rw [Bool.eq_false_iff.2 hc])
  |(simp only [bne_dec,beq_dec])
set_option maxHeartbeats 4000000 in
theorem laws_heldNode_fn {k:Nat} {a0_0:Int} {a0_1:Int} {a0_2:ByteArray} {l0_3:List ByteArray} {l0_4:List (S32)} {a1:Int} {r:Int} (H:laws_heldNode.f k a0_0 a0_1 a0_2 l0_3 l0_4 a1=some r):Fn Tryz.prog 23 [.agg [.val (.int .i64 a0_0),.val (.int .i64 a0_1),.val (.string a0_2),.row (l0_3.map (cS)) .no,.row (l0_4.map (c32)) .no],.val (.int .i64 a1)] [] (.val (.int .i64 r)) []:=by
 refine w_fn (n:=18) Tryz.func23 rfl rfl rfl rfl rfl ?_
 unfold laws_heldNode.f at H
 repeat' first
  |(refine one_id ?_; first
   |refine s_move rfl ?_
   |refine s_load rfl rfl rfl ?_
   |refine s_fldb rfl ?_
   |refine s_bin rfl rfl rfl ?_
   |refine s_assign rfl ?_
   |(have hb:=Option.bind_eq_some_iff.1 H; clear H; obtain ⟨t,hA,H⟩:=hb; refine s_call rfl (by first|exact laws_heldNodeS_fn hA|exact laws_heldStringS_fn hA) (by first|rfl|(simp only [L25_eq,L32_eq,c25_eq,c32_eq]; rfl)|(simp only [List.map_cons,List.map_nil,L25_eq,L32_eq,c25_eq,c32_eq]; rfl)) rfl rfl rfl ?_)
   )
  |(refine q_id ?_; first
   |refine q_box rfl rfl rfl rfl rfl rfl rfl ?_
   |refine q_one rfl rfl rfl rfl rfl ?_
   |refine q_nil rfl ?_
   )
  |(refine w_id ?_; first
   |refine w_seq rfl ?_
   |refine w_region rfl ?_
   |refine w_ret rfl ?_
   |refine w_skip rfl ?_
   |(refine w_true rfl rfl ?_ ?_; focus (first|with_reducible rfl|(simp only [Bool.not_true,Bool.not_false]; done)))
   |(refine w_false rfl rfl ?_ ?_; focus (first|with_reducible rfl|(simp only [Bool.not_true,Bool.not_false]; done)))
   )
  |(refine t_id ?_; first
   |refine t_norm ?_
   |refine t_ret ?_
   )
  |(simp (disch:=assumption) only [decide_eq_true,decide_eq_false])
  |(obtain rfl:=Option.some.inj H)
  |exact fq1b (.inr rfl) rfl (by first|exact res_tmp rfl|exact res_cell rfl rfl rfl) rfl rfl rfl (.inl rfl)
  |exact fq1b (.inr rfl) rfl (by first|exact res_tmp rfl|exact res_cell rfl rfl rfl) rfl rfl rfl (.inr ⟨_,_,rfl,by decide⟩)
  |exact W1.same _
  |exact W1.no _ _
  |exact W1.any _ rfl
  |exact sub3_nil
  |(simp only [lit_list,wrapK_i64,wrapK_i32,wrapK_u8,wrap64_u8,Int.reduceToNat,Int.toNat_natCast])
  |(simp (disch:=assumption) only [if_pos,if_neg] at H)
  |(simp only [Option.bind_some] at H)
  |(simp only [beq_dec,bne_dec,decide_eq_true_eq] at H)
  |(have hh:=ite_none_ H; clear H; obtain ⟨hc,H⟩:=hh)
  |(have hh:=ite_none2_ H; clear H; obtain ⟨hc,H⟩:=hh)
  |(refine (ite_some_ H).elim (fun hh=>?_) (fun hh=>?_)<;>clear H<;>obtain ⟨hc,H⟩:=hh<;>first|(cases H; done)|(cases hc; done)|(exact absurd rfl hc)|(subst hc; done)|rw [decide_eq_true hc]|rw [decide_eq_false hc]|rw [@decide_eq_true _ (_) hc]|rw [@decide_eq_false _ (_) hc]|subst hc|(obtain rfl:=Bool.eq_false_iff.2 hc)|rw [hc]|rw [Bool.eq_false_iff.2 hc])
  |(simp only [bne_dec,beq_dec])
end Go.Proofs.YtdlhidjphaaklaaGreat.V
end
section
namespace Go.Proofs.YtdlhidjphaaklaaGreat.P
open Go Go.RowKit Go.Proofs.YtdlhidjphaaklaaGreat Go.Proofs.YtdlhidjphaaklaaGreatW Go.Proofs.YtdlhidjphaaklaaGreatW.PrintWords
theorem laws_szOrder.calls (k:Nat) (a0_0:ByteArray) (a0_1:ByteArray) (a0_2:Int) (a0_3:Int) (A0_4:Option Addr) (c0_4:Nat) (l0_4:List (S113)) (a0_5:Int) (a0_6:Int) (a0_7:Int) (a0_8:Int) (A0_9:Option Addr) (c0_9:Nat) (l0_9:List (S116)) (a1:Int) (r:Int) (w:World) (hr0_4:Kd.C k113 w A0_4 l0_4.length l0_4) (hc0_4:l0_4.length≤c0_4) (hr0_9:Kd.C k116 w A0_9 l0_9.length l0_9) (hc0_9:l0_9.length≤c0_9) (h:laws_szOrder.f k a0_0 a0_1 a0_2 a0_3 l0_4 a0_5 a0_6 a0_7 a0_8 l0_9 a1=some r):Calls Tryz.prog 17 #[.agg #[.string a0_0,.string a0_1,.int .i64 a0_2,.int .i64 a0_3,.slice A0_4 l0_4.length c0_4,.int .i64 a0_5,.int .i64 a0_6,.int .i64 a0_7,.int .i64 a0_8,.slice A0_9 l0_9.length c0_9],.int .i64 a1] w fun e w'=>e=.returned (.int .i64 r)∧Below w.heap.size w w':=by
 refine (V.fn_calls (V.laws_szOrder_fn h) (vs:=[.agg #[.string a0_0,.string a0_1,.int .i64 a0_2,.int .i64 a0_3,.slice A0_4 l0_4.length c0_4,.int .i64 a0_5,.int .i64 a0_6,.int .i64 a0_7,.int .i64 a0_8,.slice A0_9 l0_9.length c0_9],.int .i64 a1]) (V.reps_cons_mk (V.rep_agg_mk (V.reps_cons_mk (V.Rep.val _ rfl) (V.reps_cons_mk (V.Rep.val _ rfl) (V.reps_cons_mk (V.Rep.val _ rfl) (V.reps_cons_mk (V.Rep.val _ rfl) (V.reps_cons_mk (V.row_to [] (by decide) (V.ka113).len (V.ka113).fl (fun x _ cs h=>(V.ka113).fwd [] h) hr0_4 hc0_4) (V.reps_cons_mk (V.Rep.val _ rfl) (V.reps_cons_mk (V.Rep.val _ rfl) (V.reps_cons_mk (V.Rep.val _ rfl) (V.reps_cons_mk (V.Rep.val _ rfl) (V.reps_cons_mk (V.row_to [] (by decide) (V.ka116).len (V.ka116).fl (fun x _ cs h=>(V.ka116).fwd [] h) hr0_9 hc0_9) V.reps_nil_mk)))))))))) rfl) (V.reps_cons_mk (V.Rep.val _ rfl) V.reps_nil_mk))).mono ?_
 rintro e w' ⟨v,F,gs,rfl,hr,hb⟩
 obtain rfl:=(V.rep_val hr).1
 exact ⟨rfl,hb⟩
theorem laws_eqOrder.calls (k:Nat) (a0_0:ByteArray) (a0_1:ByteArray) (a0_2:Int) (a0_3:Int) (A0_4:Option Addr) (c0_4:Nat) (l0_4:List (S61)) (a0_5:Int) (a0_6:Int) (a0_7:Int) (a0_8:Int) (A0_9:Option Addr) (c0_9:Nat) (l0_9:List (S124)) (a1_0:ByteArray) (a1_1:ByteArray) (a1_2:Int) (a1_3:Int) (A1_4:Option Addr) (c1_4:Nat) (l1_4:List (S61)) (a1_5:Int) (a1_6:Int) (a1_7:Int) (a1_8:Int) (A1_9:Option Addr) (c1_9:Nat) (l1_9:List (S124)) (r:Bool) (w:World) (hr0_4:Kd.C k61 w A0_4 l0_4.length l0_4) (hc0_4:l0_4.length≤c0_4) (hr0_9:Kd.C k124 w A0_9 l0_9.length l0_9) (hc0_9:l0_9.length≤c0_9) (hr1_4:Kd.C k61 w A1_4 l1_4.length l1_4) (hc1_4:l1_4.length≤c1_4) (hr1_9:Kd.C k124 w A1_9 l1_9.length l1_9) (hc1_9:l1_9.length≤c1_9) (h:laws_eqOrder.f k a0_0 a0_1 a0_2 a0_3 l0_4 a0_5 a0_6 a0_7 a0_8 l0_9 a1_0 a1_1 a1_2 a1_3 l1_4 a1_5 a1_6 a1_7 a1_8 l1_9=some r):Calls Tryz.prog 21 #[.agg #[.string a0_0,.string a0_1,.int .i64 a0_2,.int .i64 a0_3,.slice A0_4 l0_4.length c0_4,.int .i64 a0_5,.int .i64 a0_6,.int .i64 a0_7,.int .i64 a0_8,.slice A0_9 l0_9.length c0_9],.agg #[.string a1_0,.string a1_1,.int .i64 a1_2,.int .i64 a1_3,.slice A1_4 l1_4.length c1_4,.int .i64 a1_5,.int .i64 a1_6,.int .i64 a1_7,.int .i64 a1_8,.slice A1_9 l1_9.length c1_9]] w fun e w'=>e=.returned (.bool r)∧Below w.heap.size w w':=by
 refine (V.fn_calls (V.laws_eqOrder_fn h) (vs:=[.agg #[.string a0_0,.string a0_1,.int .i64 a0_2,.int .i64 a0_3,.slice A0_4 l0_4.length c0_4,.int .i64 a0_5,.int .i64 a0_6,.int .i64 a0_7,.int .i64 a0_8,.slice A0_9 l0_9.length c0_9],.agg #[.string a1_0,.string a1_1,.int .i64 a1_2,.int .i64 a1_3,.slice A1_4 l1_4.length c1_4,.int .i64 a1_5,.int .i64 a1_6,.int .i64 a1_7,.int .i64 a1_8,.slice A1_9 l1_9.length c1_9]]) (V.reps_cons_mk (V.rep_agg_mk (V.reps_cons_mk (V.Rep.val _ rfl) (V.reps_cons_mk (V.Rep.val _ rfl) (V.reps_cons_mk (V.Rep.val _ rfl) (V.reps_cons_mk (V.Rep.val _ rfl) (V.reps_cons_mk (V.row_to [] (by decide) (V.ka61).len (V.ka61).fl (fun x _ cs h=>(V.ka61).fwd [] h) hr0_4 hc0_4) (V.reps_cons_mk (V.Rep.val _ rfl) (V.reps_cons_mk (V.Rep.val _ rfl) (V.reps_cons_mk (V.Rep.val _ rfl) (V.reps_cons_mk (V.Rep.val _ rfl) (V.reps_cons_mk (V.row_to [] (by decide) (V.ka124).len (V.ka124).fl (fun x _ cs h=>(V.ka124).fwd [] h) hr0_9 hc0_9) V.reps_nil_mk)))))))))) rfl) (V.reps_cons_mk (V.rep_agg_mk (V.reps_cons_mk (V.Rep.val _ rfl) (V.reps_cons_mk (V.Rep.val _ rfl) (V.reps_cons_mk (V.Rep.val _ rfl) (V.reps_cons_mk (V.Rep.val _ rfl) (V.reps_cons_mk (V.row_to [] (by decide) (V.ka61).len (V.ka61).fl (fun x _ cs h=>(V.ka61).fwd [] h) hr1_4 hc1_4) (V.reps_cons_mk (V.Rep.val _ rfl) (V.reps_cons_mk (V.Rep.val _ rfl) (V.reps_cons_mk (V.Rep.val _ rfl) (V.reps_cons_mk (V.Rep.val _ rfl) (V.reps_cons_mk (V.row_to [] (by decide) (V.ka124).len (V.ka124).fl (fun x _ cs h=>(V.ka124).fwd [] h) hr1_9 hc1_9) V.reps_nil_mk)))))))))) rfl) V.reps_nil_mk))).mono ?_
 rintro e w' ⟨v,F,gs,rfl,hr,hb⟩
 obtain rfl:=(V.rep_val hr).1
 exact ⟨rfl,hb⟩
theorem laws_eqNode.calls (k:Nat) (a0_0:Int) (a0_1:Int) (a0_2:ByteArray) (A0_3:Option Addr) (c0_3:Nat) (l0_3:List ByteArray) (A0_4:Option Addr) (c0_4:Nat) (l0_4:List (S32)) (a1_0:Int) (a1_1:Int) (a1_2:ByteArray) (A1_3:Option Addr) (c1_3:Nat) (l1_3:List ByteArray) (A1_4:Option Addr) (c1_4:Nat) (l1_4:List (S32)) (r:Bool) (w:World) (hr0_3:Kd.C Kd.string w A0_3 l0_3.length l0_3) (hc0_3:l0_3.length≤c0_3) (hr0_4:Kd.C k32 w A0_4 l0_4.length l0_4) (hc0_4:l0_4.length≤c0_4) (hr1_3:Kd.C Kd.string w A1_3 l1_3.length l1_3) (hc1_3:l1_3.length≤c1_3) (hr1_4:Kd.C k32 w A1_4 l1_4.length l1_4) (hc1_4:l1_4.length≤c1_4) (h:laws_eqNode.f k a0_0 a0_1 a0_2 l0_3 l0_4 a1_0 a1_1 a1_2 l1_3 l1_4=some r):Calls Tryz.prog 13 #[.agg #[.int .i64 a0_0,.int .i64 a0_1,.string a0_2,.slice A0_3 l0_3.length c0_3,.slice A0_4 l0_4.length c0_4],.agg #[.int .i64 a1_0,.int .i64 a1_1,.string a1_2,.slice A1_3 l1_3.length c1_3,.slice A1_4 l1_4.length c1_4]] w fun e w'=>e=.returned (.bool r)∧Below w.heap.size w w':=by
 refine (V.fn_calls (V.laws_eqNode_fn h) (vs:=[.agg #[.int .i64 a0_0,.int .i64 a0_1,.string a0_2,.slice A0_3 l0_3.length c0_3,.slice A0_4 l0_4.length c0_4],.agg #[.int .i64 a1_0,.int .i64 a1_1,.string a1_2,.slice A1_3 l1_3.length c1_3,.slice A1_4 l1_4.length c1_4]]) (V.reps_cons_mk (V.rep_agg_mk (V.reps_cons_mk (V.Rep.val _ rfl) (V.reps_cons_mk (V.Rep.val _ rfl) (V.reps_cons_mk (V.Rep.val _ rfl) (V.reps_cons_mk (V.row_to [] (by decide) (V.ka_string).len (V.ka_string).fl (fun x _ cs h=>(V.ka_string).fwd [] h) hr0_3 hc0_3) (V.reps_cons_mk (V.row_to [] (by decide) (V.ka32).len (V.ka32).fl (fun x _ cs h=>(V.ka32).fwd [] h) hr0_4 hc0_4) V.reps_nil_mk))))) rfl) (V.reps_cons_mk (V.rep_agg_mk (V.reps_cons_mk (V.Rep.val _ rfl) (V.reps_cons_mk (V.Rep.val _ rfl) (V.reps_cons_mk (V.Rep.val _ rfl) (V.reps_cons_mk (V.row_to [] (by decide) (V.ka_string).len (V.ka_string).fl (fun x _ cs h=>(V.ka_string).fwd [] h) hr1_3 hc1_3) (V.reps_cons_mk (V.row_to [] (by decide) (V.ka32).len (V.ka32).fl (fun x _ cs h=>(V.ka32).fwd [] h) hr1_4 hc1_4) V.reps_nil_mk))))) rfl) V.reps_nil_mk))).mono ?_
 rintro e w' ⟨v,F,gs,rfl,hr,hb⟩
 obtain rfl:=(V.rep_val hr).1
 exact ⟨rfl,hb⟩
theorem laws_heldNode.calls (k:Nat) (a0_0:Int) (a0_1:Int) (a0_2:ByteArray) (A0_3:Option Addr) (c0_3:Nat) (l0_3:List ByteArray) (A0_4:Option Addr) (c0_4:Nat) (l0_4:List (S32)) (a1:Int) (r:Int) (w:World) (hr0_3:Kd.C Kd.string w A0_3 l0_3.length l0_3) (hc0_3:l0_3.length≤c0_3) (hr0_4:Kd.C k32 w A0_4 l0_4.length l0_4) (hc0_4:l0_4.length≤c0_4) (h:laws_heldNode.f k a0_0 a0_1 a0_2 l0_3 l0_4 a1=some r):Calls Tryz.prog 23 #[.agg #[.int .i64 a0_0,.int .i64 a0_1,.string a0_2,.slice A0_3 l0_3.length c0_3,.slice A0_4 l0_4.length c0_4],.int .i64 a1] w fun e w'=>e=.returned (.int .i64 r)∧Below w.heap.size w w':=by
 refine (V.fn_calls (V.laws_heldNode_fn h) (vs:=[.agg #[.int .i64 a0_0,.int .i64 a0_1,.string a0_2,.slice A0_3 l0_3.length c0_3,.slice A0_4 l0_4.length c0_4],.int .i64 a1]) (V.reps_cons_mk (V.rep_agg_mk (V.reps_cons_mk (V.Rep.val _ rfl) (V.reps_cons_mk (V.Rep.val _ rfl) (V.reps_cons_mk (V.Rep.val _ rfl) (V.reps_cons_mk (V.row_to [] (by decide) (V.ka_string).len (V.ka_string).fl (fun x _ cs h=>(V.ka_string).fwd [] h) hr0_3 hc0_3) (V.reps_cons_mk (V.row_to [] (by decide) (V.ka32).len (V.ka32).fl (fun x _ cs h=>(V.ka32).fwd [] h) hr0_4 hc0_4) V.reps_nil_mk))))) rfl) (V.reps_cons_mk (V.Rep.val _ rfl) V.reps_nil_mk))).mono ?_
 rintro e w' ⟨v,F,gs,rfl,hr,hb⟩
 obtain rfl:=(V.rep_val hr).1
 exact ⟨rfl,hb⟩
theorem laws_markText.calls (k:Nat) (a0:Int) (r:ByteArray) (w:World) (h:laws_markText.f k a0=some r):Calls Tryz.prog 50 #[.int .i64 a0] w fun e w'=>e=.returned (.string r)∧Below w.heap.size w w':=by
 refine (V.fn_calls (V.laws_markText_fn h) (vs:=[.int .i64 a0]) (V.reps_cons_mk (V.Rep.val _ rfl) V.reps_nil_mk)).mono ?_
 rintro e w' ⟨v,F,gs,rfl,hr,hb⟩
 obtain rfl:=(V.rep_val hr).1
 exact ⟨rfl,hb⟩
end Go.Proofs.YtdlhidjphaaklaaGreat.P
end
section
namespace Go.Proofs.YtdlhidjphaaklaaGreat.H
open Go.RowKit Go.Proofs.YtdlhidjphaaklaaGreat.P Go.Proofs.YtdlhidjphaaklaaGreatW.PrintWords
structure Chg (S : Nat → Prop) (w w' : World) : Prop where
  os:w'.os=w.os
  tape:w'.tape=w.tape
  output:w'.output=w.output
  size:w.heap.size≤w'.heap.size
  block:∀ k,k<w.heap.size→¬ S k→w'.heap[k]?=w.heap[k]?
section
variable {S S':Nat→Prop} {w w1 w2:World}
theorem Chg.refl (S:Nat→Prop) (w:World):Chg S w w:=⟨rfl,rfl,rfl,Nat.le_refl _,fun _ _ _=>rfl⟩
theorem Chg.trans (h:Chg S w w1) (k:Chg S w1 w2):Chg S w w2 :=
  ⟨k.os.trans h.os,k.tape.trans h.tape,k.output.trans h.output,Nat.le_trans h.size k.size,fun i hi hs=>(k.block i (Nat.lt_of_lt_of_le hi h.size) hs).trans (h.block i hi hs)⟩
theorem Chg.mono (h:Chg S w w1) (hs:∀ k,k<w.heap.size→S k→S' k):Chg S' w w1:=⟨h.os,h.tape,h.output,h.size,fun i hi hn=>h.block i hi (fun e=>hn (hs i hi e))⟩
theorem Chg.of_below {B:Nat} (h:Below B w w1):Chg (fun k=>B≤k) w w1:=⟨h.os,h.tape,h.output,h.size,fun k _ hs=>h.block k (by omega)⟩
theorem Chg.of_same (h:Below w.heap.size w w1):Chg S w w1:=⟨h.os,h.tape,h.output,h.size,fun k hk _=>h.block k hk⟩
theorem Chg.below {B:Nat} (h:Chg S w w1) (hB:∀ k,S k→B≤k) (hw:B≤w.heap.size):Below B w w1:=⟨h.os,h.tape,h.output,h.size,fun k hk=>h.block k (by omega) (fun e=>by have:=hB k e; omega)⟩
theorem Chg.set (w:World) (p:Addr) (u:Value) (hp:S p.block):Chg S w (w.setCell p u) :=
  ⟨rfl,rfl,rfl,by simp [World.setCell],fun k _ hs=>Below.heap_setCell w p u k (fun e=>hs (e ▸ hp))⟩
theorem Chg.grown {row:Option Nat} (h:w.grownBy w1 row) (hr:∀ k,row=some k→S k):Chg S w w1:=⟨h.os,h.tape,h.output,h.size,fun k hk hs=>h.block k hk (fun e=>hs (hr k e.symm))⟩
end
def SRow (w:World) (v:Value) (xs:List ByteArray):Prop:=w.ownsRow 0 9 1 v xs.length (xs.map Value.string)
def OT (w : World) : S32 → List Value → List Nat → Prop
  | ⟨a, b, s, ks, kids⟩, cs, fp => ∃ (v3 v4 : Value) (fss : List (List Nat)) (inner : List Value), cs = [.int .i64 a, .int .i64 b, .string s, v3, v4] ∧ SRow w v3 ks ∧ w.ownsRow 0 32 5 v4 kids.length inner ∧ fss.length = kids.length ∧
      (∀ i (h:i<kids.length) f,fss[i]?=some f→OT w kids[i] ((inner.drop (i*5)).take 5) f)∧fp=v3.ownBlock.toList ++ (v4.ownBlock.toList ++ fss.flatten)
termination_by x=>SizeOf.sizeOf x
decreasing_by
  have:=List.sizeOf_lt_of_mem (List.getElem_mem h)
  simp only [S32.mk.sizeOf_spec]
  omega
def ORow (w:World) (v:Value) (kids:List S32) (fss:List (List Nat)):Prop:=∃ inner,w.ownsRow 0 32 5 v kids.length inner∧fss.length=kids.length∧∀ i (h:i<kids.length) f,fss[i]?=some f→OT w kids[i] ((inner.drop (i*5)).take 5) f
theorem OT_iff (w:World) (x:S32) (cs:List Value) (fp:List Nat):OT w x cs fp ↔ ∃ v3 v4 fss,cs=[.int .i64 x.f0,.int .i64 x.f1,.string x.f2,v3,v4]∧SRow w v3 x.f3∧ORow w v4 x.f4 fss∧fp=v3.ownBlock.toList ++ (v4.ownBlock.toList ++ fss.flatten):=by
  obtain ⟨a,b,s,ks,kids⟩:=x
  rw [OT]
  constructor
  · rintro ⟨v3, v4, fss, inner, h1, h2, h3, h4, h5, h6⟩
    exact ⟨v3,v4,fss,h1,h2,⟨inner,h3,h4,h5⟩,h6⟩
  · rintro ⟨v3, v4, fss, h1, h2, ⟨inner, h3, h4, h5⟩, h6⟩
    exact ⟨v3,v4,fss,inner,h1,h2,h3,h4,h5,h6⟩
theorem tree_ind {P:S32→Prop} (h:∀ a,(∀ x ∈ a.f4,P x)→P a) (a:S32):P a:=by
  have key:∀ n,∀ a:S32,SizeOf.sizeOf a≤n→P a:=by
    intro n
    induction n with
    | zero=>intro a ha; exfalso; obtain ⟨f0,f1,f2,f3,f4⟩:=a; simp only [S32.mk.sizeOf_spec] at ha; omega
    | succ n ih =>
      intro a ha
      refine h a (fun x hx=>ih x ?_)
      obtain ⟨f0,f1,f2,f3,f4⟩:=a
      have hx':x ∈ f4:=hx
      have:=List.sizeOf_lt_of_mem hx'
      simp only [S32.mk.sizeOf_spec] at ha
      omega
  exact key _ a (Nat.le_refl _)
theorem own_chg {S:Nat→Prop} {w w1:World} {b e s n:Nat} {v:Value} {xs:List Value} (h:w.ownsRow b e s v n xs) (hc:Chg S w w1) (hs:∀ k,v.ownBlock=some k→¬ S k):w1.ownsRow b e s v n xs :=
  own_move h (fun k hk=>hc.block k (h.lt k hk).2 (hs k hk))
theorem mem_own {v:Value} {k:Nat}:k ∈ v.ownBlock.toList ↔ v.ownBlock=some k:=by cases v.ownBlock <;> simp [eq_comm]
theorem OT_chg {S:Nat→Prop} {w w1:World} (hc:Chg S w w1) (x:S32):∀ cs fp,OT w x cs fp→(∀ k ∈ fp,¬ S k)→OT w1 x cs fp:=by
  refine tree_ind (P:=fun x=>∀ cs fp,OT w x cs fp→(∀ k ∈ fp,¬ S k)→OT w1 x cs fp) (fun x ih cs fp h hs=>?_) x
  rw [OT_iff] at h ⊢
  obtain ⟨v3,v4,fss,h1,h2,⟨inner,h3,h4,h5⟩,rfl⟩:=h
  refine ⟨v3,v4,fss,h1,own_chg h2 hc (fun k hk=>hs k (by simp [hk])),⟨inner,own_chg h3 hc (fun k hk=>hs k (by simp [hk])),h4,fun i hi f hf=>?_⟩,rfl⟩
  exact ih _ (List.getElem_mem hi) _ _ (h5 i hi f hf) (fun k hk=>hs k (by
    simp only [List.mem_append,List.mem_flatten]
    exact .inr (.inr ⟨f,List.mem_of_getElem? hf,hk⟩)))
theorem ORow_chg {S:Nat→Prop} {w w1:World} (hc:Chg S w w1) {v:Value} {kids:List S32} {fss:List (List Nat)} (h:ORow w v kids fss) (hs:∀ k,v.ownBlock=some k→¬ S k) (hf:∀ k ∈ fss.flatten,¬ S k):ORow w1 v kids fss:=by
  obtain ⟨inner,h3,h4,h5⟩:=h
  refine ⟨inner,own_chg h3 hc hs,h4,fun i hi f hi2=>OT_chg hc _ _ _ (h5 i hi f hi2) (fun k hk=>hf k ?_)⟩
  rw [List.mem_flatten]
  exact ⟨f,List.mem_of_getElem? hi2,hk⟩
theorem OT_lt {w:World} (x:S32):∀ cs fp,OT w x cs fp→∀ k ∈ fp,k<w.heap.size:=by
  refine tree_ind (P:=fun x=>∀ cs fp,OT w x cs fp→∀ k ∈ fp,k<w.heap.size) (fun x ih cs fp h k hk=>?_) x
  rw [OT_iff] at h
  obtain ⟨v3,v4,fss,h1,h2,⟨inner,h3,h4,h5⟩,rfl⟩:=h
  simp only [List.mem_append,mem_own,List.mem_flatten] at hk
  rcases hk with hk | hk | ⟨f,hf,hk⟩
  · exact (h2.lt k hk).2
  · exact (h3.lt k hk).2
  · obtain ⟨i, hi, rfl⟩ := List.getElem_of_mem hf
    exact ih _ (List.getElem_mem (by omega)) _ _ (h5 i (by omega) _ (List.getElem?_eq_getElem hi)) k hk
theorem own_reads {α : Type} {d : Kd α} {w : World} {e s n : Nat} {v : Value} {inner : List Value} {xs : List α} (h : w.ownsRow 0 e s v n inner) (hs : d.sz = s) (hx : xs.length = n)
    (hk:∀ i (hi:i<xs.length),d.K w xs[i] ((inner.drop (i*s)).take s)):∃ A c,v=.slice A n c∧n≤c∧d.C w A n xs:=by
  obtain ⟨hl,h2⟩:=h
  rcases h2 with ⟨rfl,h0⟩ | ⟨g,cap,cur,rfl,_,hg,hc,hm,hsz,ht⟩
  · subst h0
    exact ⟨none,0,rfl,Nat.le_refl _,hx,by omega,fun h=>absurd h (Nat.lt_irrefl 0)⟩
  · refine ⟨some ⟨g, 0, none⟩, cap, rfl, hc, hx, by unfold maxLen at hm; omega, fun _ => ⟨⟨g, 0, none⟩, rfl, fun j p hj => ?_⟩⟩
    obtain ⟨hj2,rfl⟩:=List.getElem?_eq_some_iff.1 hj
    refine ⟨(inner.drop (j*s)).take s,?_,hk j hj2,fun i u hu=>?_⟩
    · have : j * s + s ≤ n * s := by rw [← Nat.succ_mul]; exact Nat.mul_le_mul_right _ (by omega)
      rw [List.length_take,List.length_drop,hl,hs]; omega
    · rw [List.getElem?_take] at hu
      split at hu
      · rename_i hi
        rw [List.getElem?_drop] at hu
        have:=World.ownsRow.cells (w:=w) (base:=0) (e:=e) (size:=s) (v:=.slice (some ⟨g,0,none⟩) n cap) (n:=n) (xs:=inner) ⟨hl,.inr ⟨g,cap,cur,rfl,Nat.zero_le _,hg,hc,hm,hsz,ht⟩⟩ (g:=g) rfl (j*s + i) u hu
        rw [hs]
        exact this
      · cases hu
theorem SRow_C {w:World} {v:Value} {xs:List ByteArray} (h:SRow w v xs):∃ A c,v=.slice A xs.length c∧xs.length≤c∧Kd.string.C w A xs.length xs:=by
  refine own_reads (d:=Kd.string) h rfl rfl (fun i hi=>?_)
  show _=[Value.string xs[i]]
  rw [Nat.mul_one,List.drop_eq_getElem_cons (by simpa using hi),List.getElem_map]
  rfl
theorem OT_K {w:World} (x:S32):∀ cs fp,OT w x cs fp→k32.K w x cs:=by
  refine tree_ind (P:=fun x=>∀ cs fp,OT w x cs fp→k32.K w x cs) (fun x ih cs fp h=>?_) x
  rw [OT_iff] at h
  obtain ⟨v3,v4,fss,rfl,h2,⟨inner,h3,h4,h5⟩,_⟩:=h
  obtain ⟨A3,c3,rfl,l3,g3⟩:=SRow_C h2
  obtain ⟨A4,c4,rfl,l4,g4⟩:=own_reads (d:=k32) h3 rfl rfl (fun i hi=>ih _ (List.getElem_mem hi) _ _ (h5 i hi _ (List.getElem?_eq_getElem (by omega))))
  exact k32_mk w x l3 g3 l4 g4
theorem ORow_C {w:World} {v:Value} {kids:List S32} {fss:List (List Nat)} (h:ORow w v kids fss):∃ A c,v=.slice A kids.length c∧kids.length≤c∧k32.C w A kids.length kids:=by
  obtain ⟨inner,h3,h4,h5⟩:=h
  exact own_reads (d:=k32) h3 rfl rfl (fun i hi=>OT_K _ _ _ (h5 i hi _ (List.getElem?_eq_getElem (by omega))))
theorem nd_flat {fss:List (List Nat)} (h:fss.flatten.Nodup) {i:Nat} {f:List Nat} (hi:fss[i]?=some f):f.Nodup:=(List.pairwise_flatten.1 h).1 f (List.mem_of_getElem? hi)
theorem nd_flat2 {fss:List (List Nat)} (h:fss.flatten.Nodup) {i j:Nat} {f g:List Nat} (hi:fss[i]?=some f) (hj:fss[j]?=some g) (hne:i ≠ j):∀ k,k ∈ f→k ∉ g:=by
  have hp:=List.pairwise_iff_getElem.1 (List.pairwise_flatten.1 h).2
  obtain ⟨hi2,rfl⟩:=List.getElem?_eq_some_iff.1 hi
  obtain ⟨hj2,rfl⟩:=List.getElem?_eq_some_iff.1 hj
  intro k hk hk2
  rcases Nat.lt_or_gt_of_ne hne with hlt | hlt
  · exact hp i j hi2 hj2 hlt k hk k hk2 rfl
  · exact hp j i hj2 hi2 hlt k hk2 k hk rfl
theorem mem_flat {fss:List (List Nat)} {i:Nat} {f:List Nat} (hi:fss[i]?=some f) {k:Nat} (hk:k ∈ f):k ∈ fss.flatten:=List.mem_flatten.2 ⟨f,List.mem_of_getElem? hi,hk⟩
end Go.Proofs.YtdlhidjphaaklaaGreat.H
end
