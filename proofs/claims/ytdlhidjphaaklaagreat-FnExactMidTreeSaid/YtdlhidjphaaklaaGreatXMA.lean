/- Part 1 of the proof of the law FnExactMidTree: what it leans on, in build order. No condition. (Merged by wip/reap.py.) -/
import Derived.Below
import Derived.Deep.Draws
import Derived.Deep.AppendLies
import Derived.Maps.AppendAt
import Derived.OwnWalk
import Derived.Laws.BytesArg
import Derived.Laws.MakeOwn
import Derived.Laws.OwnMore
import Derived.Deep.OwnRows
import Derived.Tactics
import Derived.Lib.ConvBytes
import Derived.Laws.Slices
import Derived.WalkKit
import Derived.KernelRfl
import Derived.RowKit3
import Derived.Deep.LoopGhost
import Derived.Deep.QuietTactic
import Derived.BigQuiet
import Derived.WideLaws
import Derived.Deep.DeepCutAuto
import Derived.Deep.CutBlock
import Derived.Deep.RegionHeld3
import Derived.Laws.Rows
import Derived.Lib.AppendStr
import Derived.ArgAppend
import Derived.Laws.IdiomCopy
import Derived.RowKit
import Derived.OrdersHeld
import Derived.Laws.BitsLemmas
import Derived.Laws.StructEq
import Derived.Test.YtdlhidjphaaklaaGreatProg
import Derived.Lib.Strings
import Derived.Lib.Bytealg
import Derived.Lib.Hide
import Derived.Lib.Slices
import Derived.Laws.Cover1
import Derived.Laws.Runes
import Derived.Orders
import Derived.Calls
import Derived.Laws.AppendOwn
import Derived.Deep.MidRow
import Derived.Deep.Upon
set_option linter.unusedVariables false
set_option linter.unusedSimpArgs false
section
namespace Go.Proofs.YtdlhidjphaaklaaGreatW.PrintWords
open Go.RowKit
structure Aside0 (p:Prop):Prop where mk::(out:p)
structure Drawn0 (w w':World):Prop where mk::(out:∃ n,w'=w.drewN n)
theorem Drawn0.refl (w:World):Drawn0 w w:=⟨⟨0,rfl⟩⟩
theorem Drawn0.step {w w':World} (h:Drawn0 w w') (n:Nat):Drawn0 w (w'.drewN n):=by
 obtain ⟨m,rfl⟩:=h
 exact ⟨⟨m+n,World.drewN_drewN ..⟩⟩
theorem Drawn0.grown {w w':World} (h:Drawn0 w w'):Grown w w':=by
 obtain ⟨n,rfl⟩:=h
 induction n with
 |zero=>exact Grown.refl _
 |succ n ih=>rw [← World.drew_drewN]; exact Grown.drew ih
theorem Drawn0.below {w w':World} (h:Drawn0 w w'):Below w.heap.size w w':=by
 obtain ⟨n,rfl⟩:=h
 induction n with
 |zero=>exact Below.refl _ _
 |succ n ih=>rw [← World.drew_drewN]; exact ih.drew
def rd (xs:List Int) (i:Int):Int:=xs.getD i.toNat 0
def bt (s:ByteArray) (i:Int):Int:=if h:i.toNat<s.size then ((s[i.toNat]'h).toNat:Int) else 0
theorem bt_at (s:ByteArray) (i:Int):∀ h:i.toNat<s.size,((s[i.toNat]'h).toNat:Int)=bt s i:=fun h=>by simp [bt,h]
theorem bt_range (s:ByteArray) (i:Int):0≤bt s i∧bt s i≤255:=by
 unfold bt
 split
 ·rename_i h
  have:=(s[i.toNat]'h).toNat_lt
  omega
 ·omega
def nums (k:IntKind) (xs:List Int):List Value:=xs.map fun x=>.int k x
theorem below_alloc {w W:World} (h:Below w.heap.size w W) (o:Obj):Below w.heap.size w (W.alloc o):=h.alloc h.size o
theorem below_drew {B:Nat} {w W:World} (h:Below B w W):Below B w W.drew:=⟨h.os,h.tape,h.output,h.size,h.block⟩
theorem pw_below_drewN {B:Nat} {w W:World} (h:Below B w W) (n:Nat):Below B w (W.drewN n):=⟨h.os,h.tape,h.output,h.size,h.block⟩
theorem below_then {B:Nat} {w w1 w2:World} (h:Below B w w1) (hB:B≤w1.heap.size) (k:Below w1.heap.size w1 w2):Below B w w2 :=
 h.trans ⟨k.os,k.tape,k.output,k.size,fun i hi=>k.block i (Nat.lt_of_lt_of_le hi hB)⟩
theorem grown_of_below {w w1:World} (h:Below w.heap.size w w1) (row:Option Nat):w.grownBy w1 row:=⟨h.os,h.tape,h.output,h.size,fun i hi _=>h.block i hi⟩
theorem pw_cell_below {w w1:World} (h:Below w.heap.size w w1) {a:Addr} {v:Value} (hc:w.cell? a=some v):w1.cell? a=some v:=(h.cell (World.block_lt_of_cell? w a hc)).trans hc
theorem add_plain (g j:Nat):(⟨g,0,none⟩:Addr).add j=⟨g,j,none⟩:=by unfold Addr.add; split<;>simp_all
def ReadsInt (w:World) (k:IntKind) (A:Option Addr) (n:Nat) (xs:List Int):Prop :=
 xs.length=n∧n≤9223372036854775807∧(0<n→∃ ad,A=some ad∧∀ j,j<n→w.cell? (ad.add j)=some (.int k (xs.getD j 0)))
theorem ReadsInt.at_ {w:World} {k:IntKind} {A:Option Addr} {n:Nat} {xs:List Int} (h:ReadsInt w k A n xs) (i:Int) (h0:0≤i) (h1:i<n):∃ ad,A=some ad∧w.cell? (ad.add i.toNat)=some (.int k (rd xs i)):=by
 obtain ⟨ad,e,hc⟩:=h.2.2 (by omega)
 exact ⟨ad,e,hc _ (by omega)⟩
theorem ReadsInt.below {w w1:World} {k:IntKind} {A:Option Addr} {n:Nat} {xs:List Int} (h:ReadsInt w k A n xs) (hb:Below w.heap.size w w1):ReadsInt w1 k A n xs :=
 ⟨h.1,h.2.1,fun hn=>by
  obtain ⟨ad,e,hc⟩:=h.2.2 hn
  exact ⟨ad,e,fun j hj=>pw_cell_below hb (hc j hj)⟩⟩
theorem own_base {w:World} {base:Nat} {e:TypeId} {size n:Nat} {v:Value} {xs:List Value} (h:w.ownsRow base e size v n xs) (k:Nat) (hk:v.ownBlock=some k):base≤k:=by
 rcases h.2 with ⟨rfl,_⟩|⟨g,cap,cur,rfl,hb,_⟩
 ·simp [Value.ownBlock] at hk
 ·have:g=k:=by simpa [Value.ownBlock] using hk
  omega
theorem own_lt {w:World} {base:Nat} {e:TypeId} {size n:Nat} {v:Value} {xs:List Value} (h:w.ownsRow base e size v n xs) (k:Nat) (hk:v.ownBlock=some k):k<w.heap.size:=by
 rcases h.2 with ⟨rfl,_⟩|⟨g,cap,cur,rfl,hb,hh,_⟩
 ·simp [Value.ownBlock] at hk
 ·have:g=k:=by simpa [Value.ownBlock] using hk
  subst this
  exact (Array.getElem?_eq_some_iff.1 hh).1
theorem pw_own_below {w w1:World} {base:Nat} {e:TypeId} {size n:Nat} {v:Value} {xs:List Value} (h:w.ownsRow base e size v n xs) (hb:Below w.heap.size w w1):w1.ownsRow base e size v n xs :=
 h.kept (grown_of_below hb none) (by cases v.ownBlock<;>simp)
theorem own_other {w w1:World} {base:Nat} {e:TypeId} {size n:Nat} {v:Value} {xs:List Value} (h:w.ownsRow base e size v n xs) {row:Option Nat} (hg:w.grownBy w1 row) (hne:v.ownBlock=none ∨ v.ownBlock ≠ row):w1.ownsRow base e size v n xs:=h.kept hg hne
theorem own_reads {w:World} {base n:Nat} {e:TypeId} {k:IntKind} {v:Value} {xs:List Int} (h:w.ownsRow base e 1 v n (nums k xs)):∃ A c,v=.slice A n c∧ReadsInt w k A n xs:=by
 have hl:xs.length=n:=by have:=h.1; simp [nums] at this; exact this
 rcases Nat.eq_zero_or_pos n with h0|h0
 ·rcases h.2 with ⟨rfl,rfl⟩|⟨g,cap,cur,rfl,_⟩
  ·exact ⟨none,0,rfl,hl,by omega,fun hp=>absurd hp (by omega)⟩
  ·exact ⟨_,cap,rfl,hl,by omega,fun hp=>absurd hp (by omega)⟩
 ·obtain ⟨g,cap,rfl,_,_⟩:=h.form h0
  have hm:n≤9223372036854775807:=by
   rcases h.2 with ⟨_,h1⟩|⟨g',cap',cur,he,_,_,h1,h2,_⟩
   ·omega
   ·simp only [maxLen] at h2
    omega
  refine ⟨_,cap,rfl,hl,hm,fun _=>⟨_,rfl,fun j hj=>h.cells (g:=g) rfl j _ ?_⟩⟩
  simp [nums,List.getElem?_eq_getElem (show j<xs.length by omega),List.getD_eq_getElem?_getD]
section
variable {P:Program} {ops:Array Oper} {rest:List Oper} {o:Oper} {a:Act} {Q:Exit→Act→World→Prop}
end
section
variable {P:Program}
end
theorem own_at {W:World} {base g n cap:Nat} {e:TypeId} {k:IntKind} {xs:List Int} (h:W.ownsRow base e 1 (.slice (some ⟨g,0,none⟩) n cap) n (nums k xs)) (i:Int) (h0:0≤i) (h1:i<n) :
  W.cell? ⟨g,i.toNat,none⟩=some (.int k (rd xs i))∧W.frozen? ⟨g,i.toNat,none⟩=false:=by
 have hl:xs.length=n:=by have:=h.1; simp [nums] at this; exact this
 constructor
 ·have hc:=h.cells (g:=g) rfl i.toNat (.int k (rd xs i)) (by simp [nums,rd,List.getElem?_eq_getElem (show i.toNat<xs.length by omega),List.getD_eq_getElem?_getD])
  rwa [add_plain] at hc
 ·rcases h.2 with ⟨h',_⟩|⟨g',cap',cur,h',_,hh,_⟩
  ·cases h'
  ·have:g=g':=by injection h' with h'; injection h' with h'; injection h' with h'
   subst this
   simp [World.frozen?,hh]
section
variable {P:Program} {ops:Array Oper} {rest:List Oper} {o:Oper} {a:Act} {Q:Exit→Act→World→Prop}
end
def bytesOf (s:ByteArray):List Int:=s.data.toList.map fun b=>(b.toNat:Int)
theorem data_length (s:ByteArray):s.data.toList.length=s.size:=by rw [Array.length_toList]; rfl
theorem bytesOf_length (s:ByteArray):(bytesOf s).length=s.size:=by rw [bytesOf,List.length_map,data_length]
theorem rd_bytesOf (s:ByteArray) (i:Int):rd (bytesOf s) i=bt s i:=by
 unfold rd bt bytesOf
 split
 ·rename_i h
  have h':i.toNat<s.data.toList.length:=by rw [data_length]; exact h
  simp [List.getD_eq_getElem?_getD,List.getElem?_eq_getElem h']
  rfl
 ·rename_i h
  have h':s.data.toList.length≤i.toNat:=by rw [data_length]; omega
  simp [List.getD_eq_getElem?_getD,List.getElem?_eq_none h']
theorem ReadsInt.take_ {w:World} {k:IntKind} {A:Option Addr} {n:Nat} {xs:List Int} (h:ReadsInt w k A n xs) (i:Nat) (hi:i≤n):ReadsInt w k A i (xs.take i):=by
 refine ⟨by rw [List.length_take,h.1]; omega,by have:=h.2.1; omega,fun hp=>?_⟩
 obtain ⟨ad,e,hc⟩:=h.2.2 (by omega)
 refine ⟨ad,e,fun j hj=>?_⟩
 rw [hc j (by omega)]
 simp [List.getD_eq_getElem?_getD,hj]
def LeO {α:Type} (a b:Option α):Prop:=∀ r,a=some r→b=some r
theorem LeO.refl {α:Type} (a:Option α):LeO a a:=fun _ h=>h
theorem LeO.none {α:Type} (b:Option α):LeO Option.none b:=fun _ h=>by cases h
theorem LeO.trans {α:Type} {a b c:Option α} (h:LeO a b) (k:LeO b c):LeO a c:=fun r hr=>k r (h r hr)
theorem LeO.ite {α:Type} {c:Prop} [Decidable c] {a a' b b':Option α} (h:LeO a a') (k:LeO b b'):LeO (if c then a else b) (if c then a' else b'):=by
 split
 ·exact h
 ·exact k
theorem LeO.bind {α β:Type} {a a':Option α} {f f':α→Option β} (h:LeO a a') (k:∀ x,LeO (f x) (f' x)):LeO (a.bind f) (a'.bind f'):=by
 intro r hr
 obtain ⟨x,hx,hf⟩:=Option.bind_eq_some_iff.1 hr
 exact Option.bind_eq_some_iff.2 ⟨x,h x hx,k x r hf⟩
theorem LeO.map {α β:Type} {a a':Option α} (f:α→β) (h:LeO a a'):LeO (a.map f) (a'.map f):=by
 intro r hr
 obtain ⟨x,hx,hf⟩:=Option.map_eq_some_iff.1 hr
 exact Option.map_eq_some_iff.2 ⟨x,h x hx,hf⟩
theorem more_rounds {α:Type} {g:Nat→Option α} (h:∀ k,LeO (g k) (g (k+1))) (k:Nat):∀ j,LeO (g k) (g (k+j))
 |0=>LeO.refl _
 |j+1=>(more_rounds h k j).trans (h (k+j))
theorem at_rounds {α:Type} {g:Nat→Option α} (h:∀ k,LeO (g k) (g (k+1))) {k k':Nat} (hk:k≤k') {r:α} (hr:g k=some r):g k'=some r:=by
 have:=more_rounds h k (k'-k) r hr
 rwa [Nat.add_sub_cancel' hk] at this
def Reps {α:Type} (R:α→List Value→Prop) (size:Nat) (ps:List α) (cs:List Value):Prop :=
 cs.length=ps.length*size∧∀ j p,ps[j]?=some p→R p ((cs.drop (j*size)).take size)
theorem Reps.none {α:Type} (R:α→List Value→Prop) (size:Nat):Reps R size [] []:=⟨by simp,fun j p h=>by simp at h⟩
theorem Reps.snoc {α:Type} {R:α→List Value→Prop} {size:Nat} {ps:List α} {cs c:List Value} {p:α} (h:Reps R size ps cs) (hp:R p c) (hc:c.length=size):Reps R size (ps ++ [p]) (cs ++ c):=by
 refine ⟨by rw [List.length_append,h.1,hc,List.length_append,List.length_singleton,Nat.add_mul,Nat.one_mul],fun j q hq=>?_⟩
 rcases Nat.lt_or_ge j ps.length with hj|hj
 ·rw [List.getElem?_append_left hj] at hq
  have h1:j*size+size≤cs.length:=by rw [h.1,← Nat.succ_mul]; exact Nat.mul_le_mul_right _ hj
  have h2:=h.2 j q hq
  rw [List.drop_append_of_le_length (by omega),List.take_append_of_le_length (by rw [List.length_drop]; omega)]
  exact h2
 ·have hj':j=ps.length:=by
   have:=(List.getElem?_eq_some_iff.1 hq).1
   rw [List.length_append,List.length_singleton] at this
   omega
  subst hj'
  have hq':p=q:=by simpa using hq
  subst hq'
  rw [← h.1,List.drop_left,← hc,List.take_length]
  exact hp
theorem Reps.imp_ {α:Type} {R R':α→List Value→Prop} {size:Nat} {ps:List α} {cs:List Value} (h:Reps R size ps cs) (hR:∀ p c,R p c→R' p c):Reps R' size ps cs:=⟨h.1,fun j p hj=>hR _ _ (h.2 j p hj)⟩
def ReadsRow {α:Type} (R:α→List Value→Prop) (size:Nat) (w:World) (A:Option Addr) (n:Nat) (ps:List α):Prop :=
 ps.length=n∧n≤9223372036854775807∧(0<n→∃ ad,A=some ad∧∀ j p,ps[j]?=some p→∃ c,c.length=size∧R p c∧∀ i u,c[i]?=some u→w.cell? (ad.add (j*size+i))=some u)
theorem ReadsRow.get_ {α:Type} {R:α→List Value→Prop} {size:Nat} {w:World} {A:Option Addr} {n:Nat} {ps:List α} (h:ReadsRow R size w A n ps) (d:α) (i:Int) (h0:0≤i) (h1:i<n) :
  ∃ ad c,A=some ad∧c.length=size∧R (ps.getD i.toNat d) c∧∀ j u,c[j]?=some u→w.cell? (ad.add (i.toNat*size+j))=some u:=by
 obtain ⟨ad,e,hc⟩:=h.2.2 (by omega)
 have hl:i.toNat<ps.length:=by have:=h.1; omega
 obtain ⟨c,hs,hr,hcell⟩:=hc i.toNat _ (List.getElem?_eq_getElem hl)
 refine ⟨ad,c,e,hs,?_,hcell⟩
 rw [List.getD_eq_getElem?_getD,List.getElem?_eq_getElem hl]
 exact hr
theorem ReadsRow.imp_ {α:Type} {R R':α→List Value→Prop} {size:Nat} {w w1:World} {A:Option Addr} {n:Nat} {ps:List α} (h:ReadsRow R size w A n ps) (hb:Below w.heap.size w w1) (hR:∀ p c,R p c→R' p c):ReadsRow R' size w1 A n ps :=
 ⟨h.1,h.2.1,fun hn=>by
  obtain ⟨ad,e,hc⟩:=h.2.2 hn
  refine ⟨ad,e,fun j p hj=>?_⟩
  obtain ⟨c,hs,hr,hcell⟩:=hc j p hj
  exact ⟨c,hs,hR _ _ hr,fun i u hu=>pw_cell_below hb (hcell i u hu)⟩⟩
theorem own_reads_row {α:Type} {R:α→List Value→Prop} {w:World} {base n size:Nat} {e:TypeId} {v:Value} {ps:List α} {cs:List Value} (h:w.ownsRow base e size v n cs) (hR:Reps R size ps cs) (hn:ps.length=n) :
  ∃ A c,v=.slice A n c∧ReadsRow R size w A n ps:=by
 rcases Nat.eq_zero_or_pos n with h0|h0
 ·rcases h.2 with ⟨rfl,rfl⟩|⟨g,cap,cur,rfl,_⟩
  ·exact ⟨none,0,rfl,hn,by omega,fun hp=>absurd hp (by omega)⟩
  ·exact ⟨_,cap,rfl,hn,by omega,fun hp=>absurd hp (by omega)⟩
 ·obtain ⟨g,cap,rfl,_,_⟩:=h.form h0
  have hm:n≤9223372036854775807:=by
   rcases h.2 with ⟨_,h1⟩|⟨g',cap',cur,he,_,_,h1,h2,_⟩
   ·omega
   ·simp only [maxLen] at h2
    omega
  refine ⟨_,cap,rfl,hn,hm,fun _=>⟨_,rfl,fun j p hj=>⟨(cs.drop (j*size)).take size,?_,hR.2 j p hj,fun i u hu=>?_⟩⟩⟩
  ·have hjl:=(List.getElem?_eq_some_iff.1 hj).1
   have h1:j*size+size≤cs.length:=by rw [hR.1,← Nat.succ_mul]; exact Nat.mul_le_mul_right _ hjl
   rw [List.length_take,List.length_drop]
   omega
  ·refine h.cells (g:=g) rfl _ u ?_
   rw [List.getElem?_take] at hu
   split at hu
   ·rw [List.getElem?_drop] at hu
    exact hu
   ·cases hu
theorem add_field (ad:Addr) (m j:Nat) (hj:0<j):ad.add (m+j)=⟨(ad.add m).block,(ad.add m).off+j,none⟩:=by
 unfold Addr.add
 by_cases hm:m=0
 ·subst hm
  simp [Nat.ne_of_gt hj]
 ·simp [hm,Nat.add_assoc]
section
variable {P:Program} {ops:Array Oper} {rest:List Oper} {o:Oper} {a:Act} {Q:Exit→Act→World→Prop}
theorem print_append_cells {w0 W:World} (base:Nat) (hgd:o.guard=none) (s x:Operand) (t e:TypeId) (z:Value) (size bytes:Nat)
  (ho:o.op=.call { callee:=.builtin .append,args:=#[s,x],argTypes:=#[t,t] })
  (ht:P.underlying t=some (.slice e)) (hinfo:(P.info? e).map (fun i=>(i.zero,i.size,i.bytes))=some (some z,size,bytes)) (hz:z.cells.size=size) (hs0:0<size) (hb0:0<bytes)
  (v:Value) (n:Nat) (xs ys:List Value) (hs:a.eval s=v) (hx:a.eval x=.slice (some ⟨W.heap.size,0,none⟩) 1 1) (hys:ys.length=size) (h1:∀ u ∈ ys,u.oneCell'=true)
  (HO:W.ownsRow base e size v n xs) (HB:Below base w0 W) (hbase:base≤W.heap.size) (hl:(n+1)*bytes≤140737488355328)
  (h:∀ v1 w1,w1.ownsRow base e size v1 (n+1) (xs ++ ys)→Below base w0 w1→W.grownBy w1 v.ownBlock→(v1.ownBlock=v.ownBlock ∨ ∃ b,v1.ownBlock=some b∧W.heap.size≤b)→wpList P ops Q rest (a.put o.dst v1) w1) :
  wpList P ops Q (o::rest) a (W.alloc (.cells ys.toArray e)):=by
 obtain ⟨i0,hi,hzz⟩:=Option.map_eq_some_iff.1 hinfo
 simp only [Prod.mk.injEq] at hzz
 obtain ⟨hz0,hz1,hz2⟩:=hzz
 have hlen:n+1≤140737488355328:=Nat.le_trans (Nat.le_mul_of_pos_right _ hb0) hl
 refine wpList_append_own_at (W.alloc (.cells ys.toArray e)) hgd s x t ho base e i0 z size bytes ht hi hz0 hz1 hz2 hz hs0 v n xs hs (HO.alloc _) ⟨W.heap.size,0,none⟩ 1 1 ys hx (by rw [hys]; simp)
  (by simpa using World.news_of_block (cs:=ys.toArray) (t:=e) (fr:=(0,0)) (heap_alloc_new W (.cells ys.toArray e))) h1 (by simp only [maxLen]; omega) hl (by simp; omega) ?_
 intro v1 w1 hown hg _ hat
 refine h v1 w1 hown ((HB.alloc hbase _).grown hg (by simp; omega) (own_base HO)) (World.grownBy.trans (World.grownBy_alloc W _ _) hg) ?_
 rcases hat with hat|hat
 ·exact .inl hat
 ·exact .inr ⟨_,hat,by simp⟩
end
theorem own_ne {w:World} {base:Nat} {e t:TypeId} {size n g:Nat} {v:Value} {xs:List Value} {cs:Array Value} (h:w.ownsRow base e size v n xs) (hg:w.heap[g]?=some (.cells cs t (0,0))) (hne:e ≠ t):some g ≠ v.ownBlock:=by
 rcases h.2 with ⟨rfl,_⟩|⟨g',cap,cur,rfl,_,hh,_⟩
 ·simp [Value.ownBlock]
 ·intro he
  have:g=g':=by simpa [Value.ownBlock] using he
  subst this
  rw [hg] at hh
  injection hh with hh
  injection hh with _ ht
  exact hne ht.symm
theorem blk_set {w:World} {g:Nat} {t:TypeId} {cs:Array Value} (h:w.heap[g]?=some (.cells cs t (0,0))) (i:Nat) (u:Value):(w.setCell ⟨g,i,none⟩ u).heap[g]?=some (.cells (cs.setIfInBounds i u) t (0,0)):=by
 simp [World.setCell,Array.getElem?_modify,h]
theorem blk_far {w:World} {g:Nat} {t:TypeId} {cs:Array Value} (h:w.heap[g]?=some (.cells cs t (0,0))) {p:Addr} (hp:g ≠ p.block) (u:Value):(w.setCell p u).heap[g]?=some (.cells cs t (0,0)):=(Below.heap_setCell w p u g hp).trans h
theorem blk_lt {w:World} {g:Nat} {o:Obj} (h:w.heap[g]?=some o):g<w.heap.size:=(Array.getElem?_eq_some_iff.1 h).1
theorem blk_cell {w:World} {g:Nat} {t:TypeId} {cs:Array Value} (h:w.heap[g]?=some (.cells cs t (0,0))) (i:Nat):w.cell? ⟨g,i,none⟩=cs[i]?:=cell_of_row w g i cs t (0,0) h
theorem blk_frozen {w:World} {g:Nat} {t:TypeId} {cs:Array Value} (h:w.heap[g]?=some (.cells cs t (0,0))) (i:Nat):w.frozen? ⟨g,i,none⟩=false:=by simp [World.frozen?,h]
theorem blk_grown {w w1:World} {g:Nat} {o:Obj} {row:Option Nat} (h:w.heap[g]?=some o) (hg:w.grownBy w1 row) (hne:some g ≠ row):w1.heap[g]?=some o:=(hg.block g (blk_lt h) hne).trans h
def KeepBut (w w':World) (g:Nat) (row:Option Nat):Prop:=w.heap.size≤w'.heap.size∧∀ i,i<w.heap.size→i ≠ g→some i ≠ row→w'.heap[i]?=w.heap[i]?
theorem KeepBut.refl (w:World) (g:Nat) (row:Option Nat):KeepBut w w g row:=⟨Nat.le_refl _,fun _ _ _ _=>rfl⟩
theorem KeepBut.of_grown {w w1:World} {row:Option Nat} (h:w.grownBy w1 row) (g:Nat):KeepBut w w1 g row:=⟨h.size,fun i hi _ hr=>h.block i hi hr⟩
theorem KeepBut.of_below {w w1:World} (h:Below w.heap.size w w1) (g:Nat) (row:Option Nat):KeepBut w w1 g row:=⟨h.size,fun i hi _ _=>h.block i hi⟩
theorem KeepBut.trans {w w1 w2:World} {g:Nat} {row row1:Option Nat} (h:KeepBut w w1 g row) (k:KeepBut w1 w2 g row1) (hr:row1=row ∨ ∃ b,row1=some b∧w.heap.size≤b):KeepBut w w2 g row :=
 ⟨Nat.le_trans h.1 k.1,fun i hi hg hn=>by
  refine (k.2 i (Nat.lt_of_lt_of_le hi h.1) hg ?_).trans (h.2 i hi hg hn)
  rcases hr with rfl|⟨b,rfl,hb⟩
  ·exact hn
  ·intro e
   injection e with e
   omega⟩
theorem KeepBut.blk {w w1:World} {g g':Nat} {row:Option Nat} {o:Obj} (h:KeepBut w w1 g row) (hb:w.heap[g']?=some o) (hg:g' ≠ g) (hr:some g' ≠ row):w1.heap[g']?=some o:=(h.2 g' (blk_lt hb) hg hr).trans hb
theorem KeepBut.own {w w1:World} {g:Nat} {row:Option Nat} {base:Nat} {e:TypeId} {size n:Nat} {v:Value} {xs:List Value} (h:KeepBut w w1 g row) (ho:w.ownsRow base e size v n xs) (hg:v.ownBlock ≠ some g) (hr:v.ownBlock=none ∨ v.ownBlock ≠ row):w1.ownsRow base e size v n xs:=by
 obtain ⟨h1,h2⟩:=ho
 refine ⟨h1,?_⟩
 rcases h2 with h2|⟨b,cap,cur,rfl,hb,hh,r⟩
 ·exact .inl h2
 ·refine .inr ⟨b,cap,cur,rfl,hb,h.blk hh ?_ ?_,r⟩
  ·intro e
   exact hg (by rw [← e]; rfl)
  ·rcases hr with hr|hr
   ·simp [Value.ownBlock] at hr
   ·exact hr
def Ev {α:Type} (g:Nat→Option α) (r:α):Prop:=∃ K,∀ k,K≤k→g k=some r
theorem Ev.of {α:Type} {g:Nat→Option α} {r:α} (hg:∀ k,LeO (g k) (g (k+1))) {k:Nat} (h:g k=some r):Ev g r:=⟨k,fun _ hk=>at_rounds hg hk h⟩
theorem Ev.now {α:Type} (r:α):Ev (fun _=>some r) r:=⟨0,fun _ _=>rfl⟩
theorem Ev.rounds {α:Type} {g:Nat→Option α} {r:α} (h:Ev g r):∃ k,g k=some r:=by
 obtain ⟨K,h⟩:=h
 exact ⟨K,h K (Nat.le_refl _)⟩
theorem Ev.bind {α β:Type} {g:Nat→Option α} {f:Nat→α→Option β} {a:α} {r:β} (h:Ev g a) (k:Ev (fun n=>f n a) r):Ev (fun n=>(g n).bind (f n)) r:=by
 obtain ⟨K,h⟩:=h
 obtain ⟨K',k⟩:=k
 refine ⟨max K K',fun n hn=>?_⟩
 have h1:=h n (by omega)
 have h2:=k n (by omega)
 simp only [h1,Option.bind_some]
 exact h2
theorem Ev.step {α:Type} {g f:Nat→Option α} {r:α} (h:∀ k,g (k+1)=f k) (k:Ev f r):Ev g r:=by
 obtain ⟨K,k⟩:=k
 refine ⟨K+1,fun n hn=>?_⟩
 obtain ⟨m,rfl⟩:∃ m,n=m+1:=⟨n-1,by omega⟩
 rw [h]
 exact k m (by omega)
theorem Ev.congr {α:Type} {g f:Nat→Option α} {r:α} (h:∀ k,g k=f k) (k:Ev f r):Ev g r:=by
 obtain ⟨K,k⟩:=k
 exact ⟨K,fun n hn=>(h n).trans (k n hn)⟩
section
variable {P:Program} {ops:Array Oper} {o:Oper} {a:Act} {Q:Exit→Act→World→Prop} {K:Act→World→Prop}
end
theorem own_weaken {w:World} {base base':Nat} {e:TypeId} {size n:Nat} {v:Value} {xs:List Value} (h:w.ownsRow base e size v n xs) (hb:base'≤base):w.ownsRow base' e size v n xs:=by
 obtain ⟨h1,h2⟩:=h
 refine ⟨h1,?_⟩
 rcases h2 with h2|⟨g,cap,cur,rfl,hg,r⟩
 ·exact .inl h2
 ·exact .inr ⟨g,cap,cur,rfl,Nat.le_trans hb hg,r⟩
section
variable {α:Type} {enc:α→Value} {d:α}
def rdOf (d:α) (xs:List α) (i:Int):α:=xs.getD i.toNat d
def ReadsOf (enc:α→Value) (d:α) (w:World) (A:Option Addr) (n:Nat) (xs:List α):Prop :=
 xs.length=n∧n≤9223372036854775807∧(0<n→∃ ad,A=some ad∧∀ j,j<n→w.cell? (ad.add j)=some (enc (xs.getD j d)))
theorem ReadsOf.at_ {w:World} {A:Option Addr} {n:Nat} {xs:List α} (h:ReadsOf enc d w A n xs) (i:Int) (h0:0≤i) (h1:i<n):∃ ad,A=some ad∧w.cell? (ad.add i.toNat)=some (enc (rdOf d xs i)):=by
 obtain ⟨ad,e,hc⟩:=h.2.2 (by omega)
 exact ⟨ad,e,hc _ (by omega)⟩
theorem ReadsOf.below {w w1:World} {A:Option Addr} {n:Nat} {xs:List α} (h:ReadsOf enc d w A n xs) (hb:Below w.heap.size w w1):ReadsOf enc d w1 A n xs :=
 ⟨h.1,h.2.1,fun hn=>by
  obtain ⟨ad,e,hc⟩:=h.2.2 hn
  exact ⟨ad,e,fun j hj=>pw_cell_below hb (hc j hj)⟩⟩
theorem ReadsOf.take_ {w:World} {A:Option Addr} {n:Nat} {xs:List α} (h:ReadsOf enc d w A n xs) (i:Nat) (hi:i≤n):ReadsOf enc d w A i (xs.take i):=by
 refine ⟨by rw [List.length_take,h.1]; omega,by have:=h.2.1; omega,fun hp=>?_⟩
 obtain ⟨ad,e,hc⟩:=h.2.2 (by omega)
 refine ⟨ad,e,fun j hj=>?_⟩
 rw [hc j (by omega)]
 simp [List.getD_eq_getElem?_getD,hj]
end
section
variable {α:Type} {P:Program} {ops:Array Oper} {rest:List Oper} {o:Oper} {a:Act} {Q:Exit→Act→World→Prop}
end
theorem blk_below {w w1:World} {g:Nat} {o:Obj} (h:w.heap[g]?=some o) (hb:Below w.heap.size w w1):w1.heap[g]?=some o:=(hb.block g (blk_lt h)).trans h
theorem blk_new (w:World) (o:Obj):(w.alloc o).heap[w.heap.size]?=some o:=heap_alloc_new w o
section
variable {P:Program}
end
theorem own_le {w:World} {base n m c size:Nat} {e:TypeId} {A:Option Addr} {xs:List Value} (h:w.ownsRow base e size (.slice A m c) n xs):m≤c:=by
 rcases h.2 with ⟨he,_⟩|⟨g,cap,cur,he,_,_,hnc,_⟩
 ·injection he with _ h2 h3
  omega
 ·injection he with _ h2 h3
  omega
def OwnRow {α:Type} (R:α→List Value→Prop) (e:TypeId) (size:Nat) (w:World) (base:Nat) (v:Value) (ps:List α):Prop :=
 ∃ inner,w.ownsRow base e size v ps.length inner∧Reps R size ps inner
section
variable {α:Type} {R R':α→List Value→Prop} {e:TypeId} {size:Nat} {w w1:World} {base:Nat} {v:Value} {ps:List α}
theorem OwnRow.imp_ (h:OwnRow R e size w base v ps) (hR:∀ p c,R p c→R' p c):OwnRow R' e size w base v ps:=by
 obtain ⟨inner,ho,hr⟩:=h
 exact ⟨inner,ho,hr.imp_ hR⟩
theorem OwnRow.below (h:OwnRow R e size w base v ps) (hb:Below w.heap.size w w1):OwnRow R e size w1 base v ps:=by
 obtain ⟨inner,ho,hr⟩:=h
 exact ⟨inner,pw_own_below ho hb,hr⟩
theorem OwnRow.other (h:OwnRow R e size w base v ps) {row:Option Nat} (hg:w.grownBy w1 row) (hne:v.ownBlock=none ∨ v.ownBlock ≠ row):OwnRow R e size w1 base v ps:=by
 obtain ⟨inner,ho,hr⟩:=h
 exact ⟨inner,own_other ho hg hne,hr⟩
theorem OwnRow.keep (h:OwnRow R e size w base v ps) {g:Nat} {t:TypeId} {cells:Array Value} (hb:w.heap[g]?=some (.cells cells t (0,0))) (ht:e ≠ t) (hk:KeepBut w w1 g none):OwnRow R e size w1 base v ps:=by
 obtain ⟨inner,ho,hr⟩:=h
 exact ⟨inner,hk.own ho (Ne.symm (own_ne ho hb ht)) (by cases v.ownBlock<;>simp),hr⟩
theorem OwnRow.reads (h:OwnRow R e size w base v ps):∃ A c,v=.slice A ps.length c∧ps.length≤c∧ReadsRow R size w A ps.length ps:=by
 obtain ⟨inner,ho,hr⟩:=h
 obtain ⟨A,c,rfl,hrow⟩:=own_reads_row ho hr rfl
 exact ⟨A,c,rfl,own_le ho,hrow⟩
theorem OwnRow.ne_block (h:OwnRow R e size w base v ps) {g:Nat} {t:TypeId} {cells:Array Value} (hb:w.heap[g]?=some (.cells cells t (0,0))) (ht:e ≠ t):some g ≠ v.ownBlock:=by
 obtain ⟨inner,ho,hr⟩:=h
 exact own_ne ho hb ht
end
section
variable {P:Program} {ops:Array Oper} {rest:List Oper} {o:Oper} {a:Act} {Q:Exit→Act→World→Prop} {α:Type} {R:α→List Value→Prop}
theorem OwnRow.append {w0 W:World} (base:Nat) (hgd:o.guard=none) (s x:Operand) (t e:TypeId) (z:Value) (size bytes:Nat)
  (ho:o.op=.call { callee:=.builtin .append,args:=#[s,x],argTypes:=#[t,t] })
  (ht:P.underlying t=some (.slice e)) (hinfo:(P.info? e).map (fun i=>(i.zero,i.size,i.bytes))=some (some z,size,bytes)) (hz:z.cells.size=size) (hs0:0<size) (hb0:0<bytes)
  (v:Value) (ps:List α) (p:α) (cs:List Value) (hs:a.eval s=v) (hx:a.eval x=.slice (some ⟨W.heap.size,0,none⟩) 1 1) (hp:R p cs) (hcs:cs.length=size) (h1:∀ u ∈ cs,u.oneCell'=true)
  (HO:OwnRow R e size W base v ps) (HB:Below base w0 W) (hbase:base≤W.heap.size) (hl:(ps.length+1)*bytes≤140737488355328)
  (h:∀ v1 w1,OwnRow R e size w1 base v1 (ps ++ [p])→Below base w0 w1→W.grownBy w1 v.ownBlock→(v1.ownBlock=v.ownBlock ∨ ∃ b,v1.ownBlock=some b∧W.heap.size≤b)→wpList P ops Q rest (a.put o.dst v1) w1) :
  wpList P ops Q (o::rest) a (W.alloc (.cells cs.toArray e)):=by
 obtain ⟨inner,hown,hr⟩:=HO
 refine print_append_cells base hgd s x t e z size bytes ho ht hinfo hz hs0 hb0 v ps.length inner cs hs hx hcs h1 hown HB hbase hl ?_
 intro v1 w1 hown1 hb1 hg1 hat1
 exact h v1 w1 ⟨inner ++ cs,by rw [List.length_append,List.length_singleton]; exact hown1,hr.snoc hp hcs⟩ hb1 hg1 hat1
end
section
variable {P:Program} {ops:Array Oper} {o:Oper} {a:Act} {Q:Exit→Act→World→Prop} {K:Act→World→Prop} {α:Type} {R:α→List Value→Prop}
end
theorem ReadsRow.inner_ {α:Type} {R:α→List Value→Prop} {size:Nat} {w:World} {ad:Addr} {n:Nat} {ps:List α} (h:ReadsRow R size w (some ad) n ps) :
  ∃ inner,Reps R size ps inner∧∀ j u,inner[j]?=some u→w.cell? (ad.add j)=some u:=by
 have key:∀ m,m≤ps.length→∃ inner,Reps R size (ps.take m) inner∧∀ j u,inner[j]?=some u→w.cell? (ad.add j)=some u:=by
  intro m
  induction m with
  |zero=>exact fun _=>⟨[],Reps.none _ _,fun j u hu=>by simp at hu⟩
  |succ m ih =>
   intro hm
   obtain ⟨inner,hr,hc⟩:=ih (by omega)
   obtain ⟨ad',he,hcell⟩:=h.2.2 (by have:=h.1; omega)
   injection he with he
   subst he
   obtain ⟨c,hcl,hp,hcc⟩:=hcell m _ (List.getElem?_eq_getElem (show m<ps.length by omega))
   refine ⟨inner ++ c,?_,fun j u hu=>?_⟩
   ·rw [List.take_succ_eq_append_getElem (show m<ps.length by omega)]
    exact hr.snoc hp hcl
   ·have hil:inner.length=m*size:=by rw [hr.1,List.length_take,Nat.min_eq_left (by omega)]
    rcases Nat.lt_or_ge j inner.length with hj|hj
    ·rw [List.getElem?_append_left hj] at hu
     exact hc j u hu
    ·rw [List.getElem?_append_right hj] at hu
     have:=hcc (j-inner.length) u hu
     rwa [hil,Nat.add_sub_cancel' (by omega)] at this
 obtain ⟨inner,hr,hc⟩:=key ps.length (Nat.le_refl _)
 rw [List.take_length] at hr
 exact ⟨inner,hr,hc⟩
section
variable {α:Type} {P:Program}
theorem ReadsOf.len_ {enc:α→Value} {d:α} {w:World} {A:Option Addr} {n:Nat} {xs:List α} (h:ReadsOf enc d w A n xs):ReadsOf enc d w A xs.length xs:=by rw [h.1]; exact h
end
section
variable {P:Program} {ops:Array Oper} {rest:List Oper} {o:Oper} {a:Act} {Q:Exit→Act→World→Prop}
end
structure Kd (α:Type) where
 sz:Nat
 E:List Nat
 K:World→α→List Value→Prop
 M:World→Nat→(Nat→Prop)→α→List Value→Prop
 K_len:∀ {w x cs},K w x cs→cs.length=sz
 K_one:∀ {w x cs},K w x cs→∀ u ∈ cs,u.oneCell'=true
 K_below:∀ {w w1:World} {x cs},Below w.heap.size w w1→K w x cs→K w1 x cs
 K_of_M:∀ {w base ok x cs},M w base ok x cs→K w x cs
 M_mono:∀ {w base ok ok' x cs},(∀ k,ok k→ok' k)→M w base ok x cs→M w base ok' x cs
 M_bound:∀ {w:World} {base ok x cs},M w base ok x cs→M w base (fun k=>ok k∧base≤k∧k<w.heap.size∧∃ q,q ∈ E∧∃ cells,w.heap[k]?=some (.cells cells q (0,0))) x cs
 M_move:∀ {w w1:World} {base ok x cs},(∀ k,ok k→w1.heap[k]?=w.heap[k]?)→M w base ok x cs→M w1 base ok x cs
 M_lower:∀ {w base base' ok x cs},base'≤base→M w base ok x cs→M w base' ok x cs
theorem own_move {w w1:World} {base:Nat} {e:TypeId} {size n:Nat} {v:Value} {xs:List Value} (h:w.ownsRow base e size v n xs) (hm:∀ k,v.ownBlock=some k→w1.heap[k]?=w.heap[k]?):w1.ownsRow base e size v n xs:=by
 obtain ⟨h1,h2⟩:=h
 refine ⟨h1,?_⟩
 rcases h2 with h2|⟨g,cap,cur,rfl,hg,hh,r⟩
 ·exact .inl h2
 ·exact .inr ⟨g,cap,cur,rfl,hg,(hm g (by simp [Value.ownBlock])).trans hh,r⟩
theorem own_typed {w:World} {base:Nat} {e:TypeId} {size n:Nat} {v:Value} {xs:List Value} (h:w.ownsRow base e size v n xs) (k:Nat) (hk:v.ownBlock=some k):∃ cells,w.heap[k]?=some (.cells cells e (0,0)):=by
 rcases h.2 with ⟨rfl,_⟩|⟨g,cap,cur,rfl,hg,hh,r⟩
 ·simp [Value.ownBlock] at hk
 ·have:g=k:=by simpa [Value.ownBlock] using hk
  subst this
  exact ⟨cur,hh⟩
namespace Kd
def C {α:Type} (d:Kd α) (w:World) (A:Option Addr) (n:Nat) (xs:List α):Prop:=ReadsRow (d.K w) d.sz w A n xs
def R {α:Type} (d:Kd α) (e:Nat) (w:World) (base:Nat) (ok:Nat→Prop) (v:Value) (xs:List α):Prop :=
 (∀ k,v.ownBlock=some k→ok k)∧OwnRow (d.M w base (fun k=>ok k∧some k ≠ v.ownBlock)) e d.sz w base v xs
section
variable {α:Type} {d:Kd α} {e:Nat} {w w1:World} {base:Nat} {ok ok':Nat→Prop} {v:Value} {xs:List α}
theorem C_below {A:Option Addr} {n:Nat} (h:d.C w A n xs) (hb:Below w.heap.size w w1):d.C w1 A n xs:=ReadsRow.imp_ h hb (fun _ _ hp=>d.K_below hb hp)
theorem R_mono (h:d.R e w base ok v xs) (hok:∀ k,ok k→ok' k):d.R e w base ok' v xs:=⟨fun k hk=>hok k (h.1 k hk),h.2.imp_ (fun _ _ hp=>d.M_mono (fun k hk=>⟨hok k hk.1,hk.2⟩) hp)⟩
theorem R_bound (h:d.R e w base ok v xs):d.R e w base (fun k=>ok k∧base≤k∧k<w.heap.size∧∃ q,q ∈ e::d.E∧∃ cells,w.heap[k]?=some (.cells cells q (0,0))) v xs:=by
 obtain ⟨h0,inner,ho,hr⟩:=h
 refine ⟨fun k hk=>?_,inner,ho,hr.imp_ (fun _ _ hp=>d.M_mono (fun k hk=>?_) (d.M_bound hp))⟩
 ·obtain ⟨cells,hc⟩:=own_typed ho k hk
  exact ⟨h0 k hk,own_base ho k hk,own_lt ho k hk,e,List.mem_cons_self,cells,hc⟩
 ·obtain ⟨⟨h1,h2⟩,h3,h4,q,hq,hc⟩:=hk
  exact ⟨⟨h1,h3,h4,q,List.mem_cons_of_mem _ hq,hc⟩,h2⟩
theorem R_move (h:d.R e w base ok v xs) (hm:∀ k,ok k→w1.heap[k]?=w.heap[k]?):d.R e w1 base ok v xs:=by
 obtain ⟨h0,inner,ho,hr⟩:=h
 exact ⟨h0,inner,own_move ho (fun k hk=>hm k (h0 k hk)),hr.imp_ (fun _ _ hp=>d.M_move (fun k hk=>hm k hk.1) hp)⟩
theorem R_lower {base':Nat} (h:d.R e w base ok v xs) (hb:base'≤base):d.R e w base' ok v xs:=by
 obtain ⟨h0,inner,ho,hr⟩:=h
 exact ⟨h0,inner,own_weaken ho hb,hr.imp_ (fun _ _ hp=>d.M_lower hb hp)⟩
theorem R_step (h:d.R e w base ok v xs) (hm:∀ k,ok k→k<w.heap.size→w1.heap[k]?=w.heap[k]?):d.R e w1 base ok v xs :=
 R_mono (R_move (R_bound h) (fun k hk=>hm k hk.1 hk.2.2.1)) (fun _ hk=>hk.1)
theorem M_step {x:α} {cs:List Value} (h:d.M w base ok x cs) (hm:∀ k,ok k→k<w.heap.size→w1.heap[k]?=w.heap[k]?):d.M w1 base ok x cs :=
 d.M_mono (fun _ hk=>hk.1) (d.M_move (fun k hk=>hm k hk.1 hk.2.2.1) (d.M_bound h))
theorem R_below (h:d.R e w base ok v xs) (hb:Below w.heap.size w w1):d.R e w1 base ok v xs:=R_step h (fun k _ hk=>hb.block k hk)
theorem M_below {x:α} {cs:List Value} (h:d.M w base ok x cs) (hb:Below w.heap.size w w1):d.M w1 base ok x cs:=M_step h (fun k _ hk=>hb.block k hk)
theorem R_far (h:d.R e w base ok v xs) {p:Addr} (hok:∀ k,ok k→k ≠ p.block) (u:Value):d.R e (w.setCell p u) base ok v xs:=R_step h (fun k ho _=>Below.heap_setCell w p u k (hok k ho))
theorem R_types (h:d.R e w base ok v xs) {g t:Nat} {cells:Array Value} (hb:w.heap[g]?=some (.cells cells t (0,0))) (ht:∀ q,q ∈ e::d.E→q ≠ t):d.R e w base (fun k=>ok k∧k ≠ g) v xs :=
 R_mono (R_bound h) (fun k hk=>⟨hk.1,by
  obtain ⟨_,_,_,q,hq,cells',hc⟩:=hk
  rintro rfl
  rw [hc] at hb
  injection hb with hb
  injection hb with _ hb
  exact ht q hq hb⟩)
theorem R_reads (h:d.R e w base ok v xs):∃ A c,v=.slice A xs.length c∧xs.length≤c∧d.C w A xs.length xs:=by
 obtain ⟨A,c,he,hl,hr⟩:=OwnRow.reads h.2
 exact ⟨A,c,he,hl,hr.imp_ (Below.refl _ _) (fun _ _ hp=>d.K_of_M hp)⟩
theorem R_slice (h:d.R e w base ok v xs):∃ A c,v=.slice A xs.length c:=by
 obtain ⟨A,c,he,_⟩:=R_reads h
 exact ⟨A,c,he⟩
theorem R_own (h:d.R e w base ok v xs):∃ inner,w.ownsRow base e d.sz v xs.length inner:=by
 obtain ⟨_,inner,ho,_⟩:=h
 exact ⟨inner,ho⟩
theorem R_ne (h:d.R e w base ok v xs) {g t:Nat} {cells:Array Value} (hb:w.heap[g]?=some (.cells cells t (0,0))) (ht:e ≠ t):some g ≠ v.ownBlock:=OwnRow.ne_block h.2 hb ht
end
def scalar {α:Type} (enc:α→Value) (h1:∀ x,(enc x).oneCell'=true):Kd α where
 sz:=1
 E:=[]
 K:=fun _ x cs=>cs=[enc x]
 M:=fun _ _ _ x cs=>cs=[enc x]
 K_len:=fun h=>by rw [h]; rfl
 K_one:=fun h u hu=>by
  rw [h] at hu
  rw [List.mem_singleton.1 hu]
  exact h1 _
 K_below:=fun _ h=>h
 K_of_M:=fun h=>h
 M_mono:=fun _ h=>h
 M_bound:=fun h=>h
 M_move:=fun _ h=>h
 M_lower:=fun _ h=>h
def int (k:IntKind):Kd Int:=scalar (Value.int k) (fun _=>rfl)
def bool:Kd Bool:=scalar Value.bool (fun _=>rfl)
def string:Kd ByteArray:=scalar Value.string (fun _=>rfl)
def slice {α:Type} (e:Nat) (d:Kd α):Kd (List α) where
 sz:=1
 E:=e::d.E
 K:=fun w xs cs=>∃ A c,cs=[.slice A xs.length c]∧xs.length≤c∧d.C w A xs.length xs
 M:=fun w base ok xs cs=>∃ v,cs=[v]∧d.R e w base ok v xs
 K_len:=by
  rintro w x cs ⟨A,c,rfl,_⟩
  rfl
 K_one:=by
  rintro w x cs ⟨A,c,rfl,_⟩ u hu
  rw [List.mem_singleton.1 hu]
  rfl
 K_below:=by
  rintro w w1 x cs hb ⟨A,c,rfl,hl,hr⟩
  exact ⟨A,c,rfl,hl,C_below hr hb⟩
 K_of_M:=by
  rintro w base ok x cs ⟨v,rfl,h⟩
  obtain ⟨A,c,rfl,hl,hr⟩:=R_reads h
  exact ⟨A,c,rfl,hl,hr⟩
 M_mono:=by
  rintro w base ok ok' x cs hok ⟨v,rfl,h⟩
  exact ⟨v,rfl,R_mono h hok⟩
 M_bound:=by
  rintro w base ok x cs ⟨v,rfl,h⟩
  exact ⟨v,rfl,R_bound h⟩
 M_move:=by
  rintro w w1 base ok x cs hm ⟨v,rfl,h⟩
  exact ⟨v,rfl,R_move h hm⟩
 M_lower:=by
  rintro w base base' ok x cs hb ⟨v,rfl,h⟩
  exact ⟨v,rfl,R_lower h hb⟩
def pair {α β:Type} (a:Kd α) (b:Kd β):Kd (α × β) where
 sz:=a.sz+b.sz
 E:=a.E ++ b.E
 K:=fun w x cs=>∃ c0 c1,cs=c0 ++ c1∧a.K w x.1 c0∧b.K w x.2 c1
 M:=fun w base ok x cs=>∃ c0 c1,cs=c0 ++ c1∧a.M w base ok x.1 c0∧b.M w base ok x.2 c1
 K_len:=by
  rintro w x cs ⟨c0,c1,rfl,h0,h1⟩
  rw [List.length_append,a.K_len h0,b.K_len h1]
 K_one:=by
  rintro w x cs ⟨c0,c1,rfl,h0,h1⟩ u hu
  rcases List.mem_append.1 hu with hu|hu
  ·exact a.K_one h0 u hu
  ·exact b.K_one h1 u hu
 K_below:=by
  rintro w w1 x cs hb ⟨c0,c1,rfl,h0,h1⟩
  exact ⟨c0,c1,rfl,a.K_below hb h0,b.K_below hb h1⟩
 K_of_M:=by
  rintro w base ok x cs ⟨c0,c1,rfl,h0,h1⟩
  exact ⟨c0,c1,rfl,a.K_of_M h0,b.K_of_M h1⟩
 M_mono:=by
  rintro w base ok ok' x cs hok ⟨c0,c1,rfl,h0,h1⟩
  exact ⟨c0,c1,rfl,a.M_mono hok h0,b.M_mono hok h1⟩
 M_bound:=by
  rintro w base ok x cs ⟨c0,c1,rfl,h0,h1⟩
  refine ⟨c0,c1,rfl,a.M_mono ?_ (a.M_bound h0),b.M_mono ?_ (b.M_bound h1)⟩
  ·rintro k ⟨h2,h3,h4,q,hq,hc⟩
   exact ⟨h2,h3,h4,q,List.mem_append_left _ hq,hc⟩
  ·rintro k ⟨h2,h3,h4,q,hq,hc⟩
   exact ⟨h2,h3,h4,q,List.mem_append_right _ hq,hc⟩
 M_move:=by
  rintro w w1 base ok x cs hm ⟨c0,c1,rfl,h0,h1⟩
  exact ⟨c0,c1,rfl,a.M_move hm h0,b.M_move hm h1⟩
 M_lower:=by
  rintro w base base' ok x cs hb ⟨c0,c1,rfl,h0,h1⟩
  exact ⟨c0,c1,rfl,a.M_lower hb h0,b.M_lower hb h1⟩
def iso {α β:Type} (d:Kd α) (f:β→α):Kd β where
 sz:=d.sz
 E:=d.E
 K:=fun w x cs=>d.K w (f x) cs
 M:=fun w base ok x cs=>d.M w base ok (f x) cs
 K_len:=d.K_len
 K_one:=d.K_one
 K_below:=d.K_below
 K_of_M:=d.K_of_M
 M_mono:=d.M_mono
 M_bound:=d.M_bound
 M_move:=d.M_move
 M_lower:=d.M_lower
def bot {α:Type} (sz:Nat) (E:List Nat):Kd α where
 sz:=sz
 E:=E
 K:=fun _ _ _=>False
 M:=fun _ _ _ _ _=>False
 K_len:=fun h=>h.elim
 K_one:=fun h=>h.elim
 K_below:=fun _ h=>h
 K_of_M:=fun h=>h
 M_mono:=fun _ h=>h
 M_bound:=fun h=>h
 M_move:=fun _ h=>h
 M_lower:=fun _ h=>h
def upto {α:Type} (F:Kd α→Kd α) (sz:Nat) (E:List Nat):Nat→Kd α
 |0=>bot sz E
 |n+1=>F (upto F sz E n)
def fix {α:Type} (F:Kd α→Kd α) (sz:Nat) (E:List Nat) (hs:∀ n,(upto F sz E n).sz=sz) (hE:∀ n q,q ∈ (upto F sz E n).E→q ∈ E):Kd α where
 sz:=sz
 E:=E
 K:=fun w x cs=>∃ n,(upto F sz E n).K w x cs
 M:=fun w base ok x cs=>∃ n,(upto F sz E n).M w base ok x cs
 K_len:=by
  rintro w x cs ⟨n,h⟩
  rw [(upto F sz E n).K_len h,hs n]
 K_one:=by
  rintro w x cs ⟨n,h⟩
  exact (upto F sz E n).K_one h
 K_below:=by
  rintro w w1 x cs hb ⟨n,h⟩
  exact ⟨n,(upto F sz E n).K_below hb h⟩
 K_of_M:=by
  rintro w base ok x cs ⟨n,h⟩
  exact ⟨n,(upto F sz E n).K_of_M h⟩
 M_mono:=by
  rintro w base ok ok' x cs hok ⟨n,h⟩
  exact ⟨n,(upto F sz E n).M_mono hok h⟩
 M_bound:=by
  rintro w base ok x cs ⟨n,h⟩
  refine ⟨n,(upto F sz E n).M_mono ?_ ((upto F sz E n).M_bound h)⟩
  rintro k ⟨h2,h3,h4,q,hq,hc⟩
  exact ⟨h2,h3,h4,q,hE n q hq,hc⟩
 M_move:=by
  rintro w w1 base ok x cs hm ⟨n,h⟩
  exact ⟨n,(upto F sz E n).M_move hm h⟩
 M_lower:=by
  rintro w base base' ok x cs hb ⟨n,h⟩
  exact ⟨n,(upto F sz E n).M_lower hb h⟩
theorem C_get {α:Type} {d:Kd α} {w:World} {A:Option Addr} {n:Nat} {xs:List α} (h:d.C w A n xs) (z:α) (i:Int) (h0:0≤i) (h1:i<n) :
  ∃ ad c,A=some ad∧c.length=d.sz∧d.K w (xs.getD i.toNat z) c∧∀ j u,c[j]?=some u→w.cell? (ad.add (i.toNat*d.sz+j))=some u:=ReadsRow.get_ h z i h0 h1
section
variable {P:Program} {ops:Array Oper} {rest:List Oper} {o:Oper} {a:Act} {Q:Exit→Act→World→Prop} {α:Type}
end
section
variable {P:Program} {ops:Array Oper} {o:Oper} {a:Act} {Q:Exit→Act→World→Prop} {Kc:Act→World→Prop} {α:Type}
end
theorem reads_of_C {α:Type} {enc:α→Value} {d:α} {h1:∀ x,(enc x).oneCell'=true} {w:World} {A:Option Addr} {n:Nat} {xs:List α} (h:(scalar enc h1).C w A n xs):ReadsOf enc d w A n xs:=by
 refine ⟨h.1,h.2.1,fun hn=>?_⟩
 obtain ⟨ad,e,hc⟩:=h.2.2 hn
 refine ⟨ad,e,fun j hj=>?_⟩
 have hl:j<xs.length:=by have:=h.1; omega
 obtain ⟨c,_,hK,hcell⟩:=hc j _ (List.getElem?_eq_getElem hl)
 have hK':c=[enc xs[j]]:=hK
 subst hK'
 have:=hcell 0 _ rfl
 simpa [scalar,List.getD_eq_getElem?_getD,List.getElem?_eq_getElem hl] using this
end Kd
namespace Kd
structure Mono {α β:Type} (F:Kd α→Kd β):Prop where
 sz:∀ d d':Kd α,d.sz=d'.sz→(F d).sz=(F d').sz
 K:∀ d d':Kd α,d.sz=d'.sz→(∀ w x cs,d.K w x cs→d'.K w x cs)→∀ w x cs,(F d).K w x cs→(F d').K w x cs
 M:∀ d d':Kd α,d.sz=d'.sz→(∀ w base ok x cs,d.M w base ok x cs→d'.M w base ok x cs)→∀ w base ok x cs,(F d).M w base ok x cs→(F d').M w base ok x cs
theorem mono_const {α β:Type} (k:Kd β):Mono (fun _:Kd α=>k):=⟨fun _ _ _=>rfl,fun _ _ _ _ _ _ _ h=>h,fun _ _ _ _ _ _ _ _ _ h=>h⟩
theorem mono_id {α:Type}:Mono (fun d:Kd α=>d):=⟨fun _ _ h=>h,fun _ _ _ h=>h,fun _ _ _ h=>h⟩
theorem C_imp {α:Type} {d d':Kd α} (hs:d.sz=d'.sz) (h:∀ w x cs,d.K w x cs→d'.K w x cs) {w:World} {A:Option Addr} {n:Nat} {xs:List α} (hc:d.C w A n xs):d'.C w A n xs:=by
 unfold C at hc ⊢
 rw [← hs]
 exact hc.imp_ (Below.refl _ _) (fun _ _ hp=>h _ _ _ hp)
theorem R_imp {α:Type} {d d':Kd α} (hs:d.sz=d'.sz) (h:∀ w base ok x cs,d.M w base ok x cs→d'.M w base ok x cs) {e:Nat} {w:World} {base:Nat} {ok:Nat→Prop} {v:Value} {xs:List α} (hr:d.R e w base ok v xs):d'.R e w base ok v xs:=by
 unfold R at hr ⊢
 rw [← hs]
 exact ⟨hr.1,hr.2.imp_ (fun _ _ hp=>h _ _ _ _ _ hp)⟩
theorem mono_slice {α β:Type} (e:Nat) {G:Kd α→Kd β} (hG:Mono G):Mono (fun d=>slice e (G d)):=by
 refine ⟨fun _ _ _=>rfl,?_,?_⟩
 ·rintro d d' hs h w x cs ⟨A,c,rfl,hl,hr⟩
  exact ⟨A,c,rfl,hl,C_imp (hG.sz d d' hs) (hG.K d d' hs h) hr⟩
 ·rintro d d' hs h w base ok x cs ⟨v,rfl,hr⟩
  exact ⟨v,rfl,R_imp (hG.sz d d' hs) (hG.M d d' hs h) hr⟩
theorem mono_pair {α β γ:Type} {G:Kd α→Kd β} {H:Kd α→Kd γ} (hG:Mono G) (hH:Mono H):Mono (fun d=>pair (G d) (H d)):=by
 refine ⟨fun d d' hs=>?_,?_,?_⟩
 ·show (G d).sz+(H d).sz=(G d').sz+(H d').sz
  rw [hG.sz d d' hs,hH.sz d d' hs]
 ·rintro d d' hs h w x cs ⟨c0,c1,rfl,h0,h1⟩
  exact ⟨c0,c1,rfl,hG.K d d' hs h _ _ _ h0,hH.K d d' hs h _ _ _ h1⟩
 ·rintro d d' hs h w base ok x cs ⟨c0,c1,rfl,h0,h1⟩
  exact ⟨c0,c1,rfl,hG.M d d' hs h _ _ _ _ _ h0,hH.M d d' hs h _ _ _ _ _ h1⟩
theorem mono_iso {α β γ:Type} {G:Kd α→Kd β} (f:γ→β) (hG:Mono G):Mono (fun d=>iso (G d) f) :=
 ⟨hG.sz,fun d d' hs h w x cs=>hG.K d d' hs h w (f x) cs,fun d d' hs h w base ok x cs=>hG.M d d' hs h w base ok (f x) cs⟩
def Sub {α β:Type} (F:Kd α→Kd β) (E:List Nat):Prop:=∀ d:Kd α,(∀ q,q ∈ d.E→q ∈ E)→∀ q,q ∈ (F d).E→q ∈ E
theorem sub_const {α β:Type} {E:List Nat} (k:Kd β) (h:∀ q,q ∈ k.E→q ∈ E):Sub (fun _:Kd α=>k) E:=fun _ _=>h
theorem sub_id {α:Type} {E:List Nat}:Sub (fun d:Kd α=>d) E:=fun _ h=>h
theorem sub_slice {α β:Type} {E:List Nat} (e:Nat) {G:Kd α→Kd β} (he:e ∈ E) (hG:Sub G E):Sub (fun d=>slice e (G d)) E:=fun d h q hq=>by
 rcases List.mem_cons.1 hq with rfl|hq
 ·exact he
 ·exact hG d h q hq
theorem sub_pair {α β γ:Type} {E:List Nat} {G:Kd α→Kd β} {H:Kd α→Kd γ} (hG:Sub G E) (hH:Sub H E):Sub (fun d=>pair (G d) (H d)) E:=fun d h q hq=>by
 rcases List.mem_append.1 hq with hq|hq
 ·exact hG d h q hq
 ·exact hH d h q hq
theorem sub_iso {α β γ:Type} {E:List Nat} {G:Kd α→Kd β} (f:γ→β) (hG:Sub G E):Sub (fun d=>iso (G d) f) E:=hG
theorem upto_E {α:Type} {F:Kd α→Kd α} {sz:Nat} {E:List Nat} (h:Sub F E):∀ n q,q ∈ (upto F sz E n).E→q ∈ E
 |0,_,hq=>hq
 |n+1,q,hq=>h _ (upto_E h n) q hq
theorem upto_sz {α:Type} {F:Kd α→Kd α} {sz:Nat} {E:List Nat} (h:∀ d:Kd α,(F d).sz=sz):∀ n,(upto F sz E n).sz=sz
 |0=>rfl
 |_+1=>h _
section
variable {α:Type} {F:Kd α→Kd α} {sz:Nat} {E:List Nat} {hs:∀ n,(upto F sz E n).sz=sz} {hE:∀ n q,q ∈ (upto F sz E n).E→q ∈ E}
theorem upto_K (hm:Mono F) (hs:∀ n,(upto F sz E n).sz=sz):∀ n {w x cs},(upto F sz E n).K w x cs→(upto F sz E (n+1)).K w x cs
 |0,_,_,_,h=>h.elim
 |n+1,_,_,_,h=>hm.K _ _ (by rw [hs n,hs (n+1)]) (fun _ _ _ hk=>upto_K hm hs n hk) _ _ _ h
theorem upto_M (hm:Mono F) (hs:∀ n,(upto F sz E n).sz=sz):∀ n {w base ok x cs},(upto F sz E n).M w base ok x cs→(upto F sz E (n+1)).M w base ok x cs
 |0,_,_,_,_,_,h=>h.elim
 |n+1,_,_,_,_,_,h=>hm.M _ _ (by rw [hs n,hs (n+1)]) (fun _ _ _ _ _ hk=>upto_M hm hs n hk) _ _ _ _ _ h
theorem upto_K_le (hm:Mono F) (hs:∀ n,(upto F sz E n).sz=sz) {n m:Nat} (hnm:n≤m) {w x cs} (h:(upto F sz E n).K w x cs):(upto F sz E m).K w x cs:=by
 obtain ⟨j,rfl⟩:=Nat.exists_eq_add_of_le hnm
 induction j with
 |zero=>exact h
 |succ j ih=>exact upto_K hm hs _ (ih (by omega))
theorem upto_M_le (hm:Mono F) (hs:∀ n,(upto F sz E n).sz=sz) {n m:Nat} (hnm:n≤m) {w base ok x cs} (h:(upto F sz E n).M w base ok x cs):(upto F sz E m).M w base ok x cs:=by
 obtain ⟨j,rfl⟩:=Nat.exists_eq_add_of_le hnm
 induction j with
 |zero=>exact h
 |succ j ih=>exact upto_M hm hs _ (ih (by omega))
theorem fix_C {n:Nat} {w:World} {A:Option Addr} {m:Nat} {xs:List α} (h:(upto F sz E n).C w A m xs):(fix F sz E hs hE).C w A m xs:=C_imp (d':=fix F sz E hs hE) (hs n) (fun w x cs hp=>(⟨n,hp⟩:∃ n,(upto F sz E n).K w x cs)) h
theorem fix_R {n:Nat} {e:Nat} {w:World} {base:Nat} {ok:Nat→Prop} {v:Value} {xs:List α} (h:(upto F sz E n).R e w base ok v xs):(fix F sz E hs hE).R e w base ok v xs:=R_imp (d':=fix F sz E hs hE) (hs n) (fun w base ok x cs hp=>(⟨n,hp⟩:∃ n,(upto F sz E n).M w base ok x cs)) h
theorem bounded {P:Nat→Nat→Prop} (hP:∀ n m j,n≤m→P n j→P m j):∀ m,(∀ j,j<m→∃ n,P n j)→∃ N,∀ j,j<m→P N j
 |0,_=>⟨0,fun j hj=>absurd hj (Nat.not_lt_zero j)⟩
 |m+1,h=>by
  obtain ⟨N,hN⟩:=bounded hP m (fun j hj=>h j (by omega))
  obtain ⟨n,hn⟩:=h m (by omega)
  refine ⟨max N n,fun j hj=>?_⟩
  rcases Nat.lt_or_ge j m with hj'|hj'
  ·exact hP N _ j (Nat.le_max_left _ _) (hN j hj')
  ·have:j=m:=by omega
   subst this
   exact hP n _ j (Nat.le_max_right _ _) hn
theorem reps_bounded {α:Type} {R:Nat→α→List Value→Prop} (hR:∀ n m p c,n≤m→R n p c→R m p c) {size:Nat} {ps:List α} {cs:List Value} (h:Reps (fun p c=>∃ n,R n p c) size ps cs):∃ N,Reps (R N) size ps cs:=by
 obtain ⟨N,hN⟩:=bounded (P:=fun n j=>∀ p,ps[j]?=some p→R n p ((cs.drop (j*size)).take size)) (fun n m j hnm hp p hj=>hR n m p _ hnm (hp p hj)) ps.length
  (fun j hj=>by
   obtain ⟨n,hn⟩:=h.2 j _ (List.getElem?_eq_getElem hj)
   refine ⟨n,fun p hp=>?_⟩
   rw [List.getElem?_eq_getElem hj] at hp
   injection hp with hp
   rw [← hp]
   exact hn)
 exact ⟨N,h.1,fun j p hj=>hN j (List.getElem?_eq_some_iff.1 hj).1 p hj⟩
theorem fix_R_back (hm:Mono F) {e:Nat} {w:World} {base:Nat} {ok:Nat→Prop} {v:Value} {xs:List α} (h:(fix F sz E hs hE).R e w base ok v xs):∃ n,(upto F sz E n).R e w base ok v xs:=by
 obtain ⟨h0,inner,ho,hr⟩:=h
 obtain ⟨N,hN⟩:=reps_bounded (R:=fun n p c=>(upto F sz E n).M w base (fun k=>ok k∧some k ≠ v.ownBlock) p c) (fun n m p c hnm hp=>upto_M_le hm hs hnm hp) hr
 refine ⟨N,h0,inner,?_,?_⟩
 ·rw [hs N]; exact ho
 ·rw [hs N]; exact hN
theorem fix_C_back (hm:Mono F) {w:World} {A:Option Addr} {m:Nat} {xs:List α} (h:(fix F sz E hs hE).C w A m xs):∃ n,(upto F sz E n).C w A m xs:=by
 rcases Nat.eq_zero_or_pos m with hz|hpos
 ·subst hz
  exact ⟨0,h.1,h.2.1,fun hp=>absurd hp (Nat.lt_irrefl 0)⟩
 ·obtain ⟨ad,e,hc⟩:=h.2.2 hpos
  obtain ⟨N,hN⟩:=bounded (P:=fun n j=>∀ p,xs[j]?=some p→∃ c,c.length=sz∧(upto F sz E n).K w p c∧∀ i u,c[i]?=some u→w.cell? (ad.add (j*sz+i))=some u)
   (fun n n' j hnm hp p hj=>by
    obtain ⟨c,h1,h2,h3⟩:=hp p hj
    exact ⟨c,h1,upto_K_le hm hs hnm h2,h3⟩) xs.length
   (fun j hj=>by
    obtain ⟨c,h1,⟨n,h2⟩,h3⟩:=hc j _ (List.getElem?_eq_getElem hj)
    refine ⟨n,fun p hp=>?_⟩
    rw [List.getElem?_eq_getElem hj] at hp
    injection hp with hp
    rw [← hp]
    exact ⟨c,h1,h2,h3⟩)
  refine ⟨N,h.1,h.2.1,fun _=>⟨ad,e,fun j p hj=>?_⟩⟩
  rw [hs N]
  exact hN j (List.getElem?_eq_some_iff.1 hj).1 p hj
theorem upto_R_le (hm:Mono F) (hs:∀ n,(upto F sz E n).sz=sz) {n m:Nat} (hnm:n≤m) {e:Nat} {w:World} {base:Nat} {ok:Nat→Prop} {v:Value} {xs:List α} (h:(upto F sz E n).R e w base ok v xs):(upto F sz E m).R e w base ok v xs:=R_imp (by rw [hs n,hs m]) (fun _ _ _ _ _ hp=>upto_M_le hm hs hnm hp) h
theorem upto_C_le (hm:Mono F) (hs:∀ n,(upto F sz E n).sz=sz) {n m:Nat} (hnm:n≤m) {w:World} {A:Option Addr} {l:Nat} {xs:List α} (h:(upto F sz E n).C w A l xs):(upto F sz E m).C w A l xs:=C_imp (by rw [hs n,hs m]) (fun _ _ _ hp=>upto_K_le hm hs hnm hp) h
end
end Kd
namespace Kd
end Kd
namespace Kd
section
variable {α β:Type} {d:Kd α} {d':Kd β} {e e':Nat} {w w1 W:World} {base b b':Nat} {ok ok' okv oku:Nat→Prop} {v u:Value} {xs:List α} {ys:List β}
theorem R_reads' {A:Option Addr} {n c:Nat} (h:d.R e w base ok (.slice A n c) xs):n=xs.length∧n≤c∧d.C w A xs.length xs:=by
 obtain ⟨A',c',he,hl,hr⟩:=R_reads h
 injection he with h1 h2 h3
 subst h1
 exact ⟨h2,by omega,hr⟩
theorem R_form (h:d.R e w base ok v xs) (hp:0<xs.length):∃ g cap,v=.slice (some ⟨g,0,none⟩) xs.length cap∧base≤g∧g<w.heap.size∧∃ cells,w.heap[g]?=some (.cells cells e (0,0)):=by
 obtain ⟨inner,ho⟩:=R_own h
 obtain ⟨g,cap,he,hb,hl⟩:=ho.form hp
 obtain ⟨cells,hc⟩:=own_typed ho g (by rw [he]; simp [Value.ownBlock])
 exact ⟨g,cap,he,hb,hl,cells,hc⟩
end
section
variable {w W:World} {A:Option Addr} {n:Nat}
theorem at_string {xs:List ByteArray} (h:Kd.string.C w A n xs) (i:Int) (h0:0≤i) (h1:i<n):∃ ad,A=some ad∧w.cell? (ad.add i.toNat)=some (.string (rdOf ByteArray.empty xs i)) :=
 ReadsOf.at_ (reads_of_C (enc:=Value.string) (d:=ByteArray.empty) (h1:=fun _=>rfl) h) i h0 h1
variable {α:Type} {enc:α→Value} {h1:∀ x,(enc x).oneCell'=true} {e base g cap:Nat} {ok:Nat→Prop} {xs:List α}
end
section
variable {P:Program} {ops:Array Oper} {rest:List Oper} {o:Oper} {a:Act} {Q:Exit→Act→World→Prop}
theorem event_run {W w1:World} {v:Value} (hgd:o.guard=none) (hrun:(execOp a.eval o).run P W=.ok (.value v) w1) (h:wpList P ops Q rest (a.put o.dst v) w1):wpList P ops Q (o::rest) a W:=by
 refine wpList_plain hgd fun K hK=>?_
 unfold Oper.wp
 rw [hrun]
 exact hK _ _ h
variable {α:Type}
theorem R_lit (d:Kd α) {w0 W:World} (base e:Nat) (hgd:o.guard=none) {N:Tmp} (_hd:o.dst=some N) {xs:List α} {inner:List Value} {ok okp:Nat→Prop}
  (hrun:(execOp a.eval o).run P W=.ok (.value (.slice (some ⟨W.heap.size,0,none⟩) xs.length xs.length)) (W.alloc (.cells inner.toArray e)))
  (hrep:Reps (d.M W base okp) d.sz xs inner) (hok:∀ k,okp k→ok k) (hfresh:ok W.heap.size) (HB:Below base w0 W) (hbase:base≤W.heap.size) (hm:xs.length≤9223372036854775807)
  (h:∀ v1 w1,d.R e w1 base ok v1 xs→Below base w0 w1→W.grownBy w1 none→(∃ b,v1.ownBlock=some b∧W.heap.size≤b)→wpList P ops Q rest (a.put o.dst v1) w1):wpList P ops Q (o::rest) a W:=by
 refine event_run hgd hrun (h _ _ ⟨fun k hk=>?_,inner,?_,?_⟩ (HB.alloc hbase _) (World.grownBy_alloc W _ none) ⟨W.heap.size,by simp [Value.ownBlock],Nat.le_refl _⟩)
 ·have:W.heap.size=k:=by simpa [Value.ownBlock] using hk
  subst this
  exact hfresh
 ·have h2:=World.ownsRow_lit (base:=base) (e:=e) (size:=d.sz) W inner.toArray xs.length hbase (by simpa [maxLen] using hm) (by simpa using hrep.1)
  simpa using h2
 ·refine hrep.imp_ (fun p c hp=>d.M_mono (fun k hk=>⟨hok k hk.1,fun he=>?_⟩) (M_below (d.M_bound hp) (below_alloc (Below.refl _ _) _)))
  have h3:k=W.heap.size:=by simpa [Value.ownBlock] using he
  have:=hk.2.2.1
  omega
theorem reps_made {α:Type} {R:α→List Value→Prop} {z:Value} {size:Nat} {z0:α} (hz:z.cells.size=size) (hs:0<size) (h0:R z0 z.cells.toList) (m:Nat):Reps R size (List.replicate m z0) (madeCells z.cells (m*size)).toList:=by
 refine ⟨by simp [size_madeCells],fun j p hj=>?_⟩
 obtain ⟨hjl,hp⟩:=List.getElem?_eq_some_iff.1 hj
 have hjm:j<m:=by simpa using hjl
 have hp':z0=p:=by simpa using hp
 subst hp'
 have hle:j*size+size≤m*size:=by rw [← Nat.succ_mul]; exact Nat.mul_le_mul_right _ hjm
 have:((madeCells z.cells (m*size)).toList.drop (j*size)).take size=z.cells.toList:=by
  apply List.ext_getElem
  ·simp [size_madeCells,hz]
   omega
  ·intro i h1 h2
   have hi:i<size:=by rw [Array.length_toList,hz] at h2; exact h2
   have hmod:(j*size+i) % size=i:=by
    rw [Nat.mul_comm,Nat.mul_add_mod]
    exact Nat.mod_eq_of_lt hi
   simp [madeCells,hz,hmod]
   rw [getElem!_pos z.cells i (by omega)]
 rw [this]
 exact h0
theorem R_make (d:Kd α) {w0 W:World} (base e:Nat) (hgd:o.guard=none) {N:Tmp} (hd:o.dst=some N) (t:TypeId) (x y:Operand) (ho:o.op=.makeSlice t x y) (n:Int) (hx:a.eval x=.int .i64 n) (hy:a.eval y=.int .i64 n)
  (ht:P.underlying t=some (.slice e)) (z:Value) (bytes:Nat) (hinfo:(P.info? e).map (fun i=>(i.zero,i.size,i.bytes))=some (some z,d.sz,bytes)) (hz:z.cells.size=d.sz) (hs0:0<d.sz) (hb0:0<bytes)
  (z0:α) {ok okp:Nat→Prop} (hzero:d.M W base okp z0 z.cells.toList) (hok:∀ k,okp k→ok k) (hfresh:ok W.heap.size) (h0:0≤n) (hl:n.toNat*bytes≤281474976710656) (HB:Below base w0 W) (hbase:base≤W.heap.size)
  (h:∀ v1 w1,d.R e w1 base ok v1 (List.replicate n.toNat z0)→Below base w0 w1→W.grownBy w1 none→(∃ b,v1.ownBlock=some b∧W.heap.size≤b)→wpList P ops Q rest (a.put o.dst v1) w1):wpList P ops Q (o::rest) a W:=by
 obtain ⟨m,rfl⟩:=Int.eq_ofNat_of_zero_le h0
 simp only [Int.toNat_natCast] at hl h
 obtain ⟨i0,hi,hzz⟩:=Option.map_eq_some_iff.1 hinfo
 simp only [Prod.mk.injEq] at hzz
 obtain ⟨hz0,hz1,hz2⟩:=hzz
 have hm:m≤281474976710656:=Nat.le_trans (Nat.le_mul_of_pos_right _ hb0) hl
 have hr:=run_make (P:=P) W t e i0 z ht hi hz0 .i64 .i64 (m:Int) (m:Int) (by omega) (by omega)
  (by
   have h3:((i0.bytes*m:Nat):Int)≤281474976710656:=by rw [hz2,Nat.mul_comm]; omega
   rwa [Int.natCast_mul] at h3) (by omega)
 simp only [Int.toNat_natCast] at hr
 rw [hz1] at hr
 refine R_lit d base e hgd hd (xs:=List.replicate m z0) (inner:=(madeCells z.cells (m*d.sz)).toList) (okp:=okp) (ok:=ok) ?_ (reps_made hz hs0 hzero m) hok hfresh HB hbase (by simp; omega) h
 simp [execOp,ho,hx,hy,hr]
end
end Kd
section
variable {P:Program}
end
def QRow (w:World) (base:Nat) (e:TypeId) (size:Nat) (v:Value) (n:Nat) (xs:List Value):Prop :=
 xs.length=n*size ∧
 ((n=0∧∃ A,v=.slice A 0 0∧∀ a,A=some a→base≤a.block∧∃ cur,w.heap[a.block]?=some (.cells cur e (0,0))) ∨
  ∃ g off cap cur,v=.slice (some ⟨g,off*size,none⟩) n cap∧base≤g∧w.heap[g]?=some (.cells cur e (0,0))∧n≤cap∧off+cap≤maxLen∧cur.size=(off+cap)*size∧(cur.toList.drop (off*size)).take (n*size)=xs)
section
variable {w w1:World} {base n size:Nat} {e:TypeId} {v:Value} {xs:List Value}
theorem q_of_own (h:w.ownsRow base e size v n xs):QRow w base e size v n xs:=by
 obtain ⟨h1,h2⟩:=h
 refine ⟨h1,?_⟩
 rcases h2 with ⟨rfl,h0⟩|⟨g,cap,cur,rfl,hb,hh,hnc,hcm,hcs,ht⟩
 ·exact .inl ⟨h0,none,rfl,fun a ha=>by cases ha⟩
 ·exact .inr ⟨g,0,cap,cur,by rw [Nat.zero_mul],hb,hh,hnc,by rw [Nat.zero_add]; exact hcm,by rw [Nat.zero_add]; exact hcs,by rw [Nat.zero_mul,List.drop_zero]; exact ht⟩
theorem q_lower {base':Nat} (h:QRow w base e size v n xs) (hb:base'≤base):QRow w base' e size v n xs:=by
 obtain ⟨h1,h2⟩:=h
 refine ⟨h1,?_⟩
 rcases h2 with ⟨h0,A,rfl,hA⟩|⟨g,off,cap,cur,rfl,hg,r⟩
 ·exact .inl ⟨h0,A,rfl,fun a ha=>⟨Nat.le_trans hb (hA a ha).1,(hA a ha).2⟩⟩
 ·exact .inr ⟨g,off,cap,cur,rfl,Nat.le_trans hb hg,r⟩
theorem add_at (g o j:Nat):(⟨g,o,none⟩:Addr).add j=⟨g,o+j,none⟩:=by unfold Addr.add; split<;>simp_all
theorem setCells_far {g:Nat}:∀ (vs:List Value) (o:Nat) {w:World} (k:Nat),k ≠ g→(w.setCells g o vs).heap[k]?=w.heap[k]?
 |[],_,_,_,_=>rfl
 |v::r,o,w,k,hk=>by
  rw [World.setCells,setCells_far r (o+1) k hk]
  exact Below.heap_setCell w ⟨g,o,none⟩ v k hk
theorem setCells_same (g:Nat):∀ (vs:List Value) (o:Nat) (w:World),(w.setCells g o vs).os=w.os∧(w.setCells g o vs).tape=w.tape∧(w.setCells g o vs).output=w.output∧(w.setCells g o vs).heap.size=w.heap.size
 |[],_,_=>⟨rfl,rfl,rfl,rfl⟩
 |v::r,o,w=>by
  obtain ⟨h1,h2,h3,h4⟩:=setCells_same g r (o+1) (w.setCell ⟨g,o,none⟩ v)
  rw [World.setCells]
  exact ⟨h1,h2,h3,by rw [h4]; simp [World.setCell]⟩
theorem setCells_row {g:Nat} {e:TypeId}:∀ (vs:List Value) (o:Nat) (w:World) (cur:Array Value),w.heap[g]?=some (.cells cur e (0,0))→o+vs.length≤cur.size →
  ∃ cur',(w.setCells g o vs).heap[g]?=some (.cells cur' e (0,0))∧cur'.size=cur.size∧cur'.toList=cur.toList.take o ++ vs ++ cur.toList.drop (o+vs.length)
 |[],o,w,cur,h,_=>⟨cur,h,rfl,by simp⟩
 |v::r,o,w,cur,h,hl=>by
  have h2:=blk_set h o v
  simp only [List.length_cons] at hl
  obtain ⟨cur',h3,h4,h5⟩:=setCells_row r (o+1) (w.setCell ⟨g,o,none⟩ v) _ h2 (by simp; omega)
  refine ⟨cur',h3,by rw [h4]; simp,?_⟩
  rw [h5,Array.toList_setIfInBounds]
  have ho:o<cur.toList.length:=by rw [Array.length_toList]; omega
  rw [List.take_set,List.drop_set_of_lt (by omega)]
  simp only [List.length_cons]
  rw [show o+1+r.length=o+(r.length+1) by omega]
  congr 1
  rw [List.take_succ_eq_append_getElem ho,List.set_append_right _ _ (by rw [List.length_take]; omega)]
  have ho':o<cur.size:=by omega
  simp [Nat.min_eq_left (Nat.le_of_lt ho')]
end
section
variable {P:Program}
theorem q_append (w:World) (base:Nat) (t ty e:TypeId) (i:TypeInfo) (z:Value) (size bytes:Nat) (ht:P.underlying t=some (.slice e)) (hi:P.info? e=some i) (hz:i.zero=some z)
  (hsize:i.size=size) (hby:i.bytes=bytes) (hzs:z.cells.size=size) (hsz:0<size)
  (v:Value) (n:Nat) (xs:List Value) (hown:QRow w base e size v n xs)
  (a:Addr) (m c:Nat) (news:List Value) (hl:news.length=m*size) (hnews:∀ j u,news[j]?=some u→w.cell? (a.add j)=some u) (h1:∀ u ∈ news,u.oneCell'=true) (hm:0<m)
  (h63:n+m≤maxLen) (hbytes:(n+m)*bytes≤140737488355328) (hbase:base≤w.heap.size) :
  ∃ v' w',(Builtin.append_ #[t,t] ty #[v,.slice (some a) m c]).run P w=.ok v' w'∧QRow w' base e size v' (n+m) (xs ++ news)∧w.grownBy w' v.ownBlock∧(v'.ownBlock=v.ownBlock ∨ ∃ b,v'.ownBlock=some b∧w.heap.size≤b):=by
 have grows:∀ (b:Addr) (cap:Nat),cap<n+m→(∀ j u,xs[j]?=some u→w.cell? (b.add j)=some u)→v=.slice (some b) n cap →
   ∃ v' w',(Builtin.append_ #[t,t] ty #[v,.slice (some a) m c]).run P w=.ok v' w'∧QRow w' base e size v' (n+m) (xs ++ news)∧w.grownBy w' v.ownBlock∧(v'.ownBlock=v.ownBlock ∨ ∃ b,v'.ownBlock=some b∧w.heap.size≤b):=by
  intro b cap hcap hcells hv
  obtain ⟨v',w',hr,ho,hg⟩:=run_append_arg_grows (P:=P) (w:=w) t ty e i z size bytes ht hi hz hsize hby hzs hsz b n cap xs hown.1 hcells a m c news hl hnews hcap h63 hbytes
  refine ⟨v',w',by rw [hv]; exact hr,q_lower (q_of_own ho) hbase,⟨hg.os,hg.tape,hg.output,hg.size,fun k hk _=>hg.block k hk (by simp)⟩,?_⟩
  obtain ⟨g',cap',he,hb,_⟩:=ho.form (by omega)
  exact .inr ⟨g',by rw [he]; simp [Value.ownBlock],hb⟩
 rcases hown.2 with ⟨h0,A,hv,hA⟩|⟨g,off,cap,cur,hv,hbg,hg,hnc,hcm,hcs,htake⟩
 ·cases A with
  |none =>
   subst h0
   have ho:w.ownsRow base e size v 0 xs:=⟨hown.1,.inl ⟨hv,rfl⟩⟩
   obtain ⟨v',w',hr,ho',hg,_,hat⟩:=run_append_own_at (P:=P) w base t ty e i z size bytes ht hi hz hsize hby hzs hsz v 0 xs ho a m c news hl hnews h1 h63 hbytes hbase
   refine ⟨v',w',hr,q_of_own ho',hg,?_⟩
   rcases hat with hat|hat
   ·exact .inl hat
   ·exact .inr ⟨_,hat,Nat.le_refl _⟩
  |some b =>
   have hx:xs=[]:=List.eq_nil_of_length_eq_zero (by rw [hown.1,h0,Nat.zero_mul])
   exact grows b 0 (by omega) (fun j u hu=>by rw [hx] at hu; simp at hu) (by rw [hv,h0])
 ·by_cases hroom:n+m≤cap
  ·have hfit:off*size+n*size+news.length≤cur.size:=by
    rw [hl,hcs,← Nat.add_mul,← Nat.add_mul]
    exact Nat.mul_le_mul_right _ (by omega)
   subst hsize
   have hr:=run_append_room_cells (P:=P) (w:=w) t ty e i ht hi g (off*i.size) n cap a m c news hl hnews h1 hroom
    (fun j hj=>by rw [cell_of_row w g _ cur e (0,0) hg]; simp; omega) (fun j _=>blk_frozen hg _)
   obtain ⟨cur',h3,h4,h5⟩:=setCells_row news (off*i.size+n*i.size) w cur hg hfit
   obtain ⟨s1,s2,s3,s4⟩:=setCells_same g news (off*i.size+n*i.size) w
   refine ⟨_,_,by rw [hv]; exact hr,⟨by rw [List.length_append,hown.1,hl,Nat.add_mul],.inr ⟨g,off,cap,cur',rfl,hbg,h3,hroom,hcm,by rw [h4,hcs],?_⟩⟩,
    ⟨s1,s2,s3,by rw [s4]; exact Nat.le_refl _,fun k _ hk=>setCells_far news _ k (fun he=>hk (by rw [hv,he]; simp [Value.ownBlock]))⟩,.inl (by rw [hv]; rfl)⟩
   rw [h5,List.append_assoc,List.drop_append_of_le_length (by rw [List.length_take,Array.length_toList]; omega),List.drop_take]
   rw [show off*i.size+n*i.size-off*i.size=n*i.size by omega,htake]
   rw [← List.append_assoc]
   exact List.take_left' (by rw [List.length_append,hown.1,hl,Nat.add_mul])
  ·refine grows ⟨g,off*size,none⟩ cap (by omega) (fun j u hu=>?_) hv
   rw [add_at,cell_of_row w g _ cur e (0,0) hg]
   rw [← htake,List.getElem?_take] at hu
   split at hu
   ·rw [List.getElem?_drop] at hu
    rw [← Array.getElem?_toList]
    exact hu
   ·cases hu
end
namespace Kd
def Q {α:Type} (d:Kd α) (e:Nat) (w:World) (base:Nat) (ok:Nat→Prop) (v:Value) (xs:List α):Prop :=
 (∀ k,v.ownBlock=some k→ok k)∧∃ inner,QRow w base e d.sz v xs.length inner∧Reps (d.M w base (fun k=>ok k∧some k ≠ v.ownBlock)) d.sz xs inner
section
variable {α:Type} {d:Kd α} {e:Nat} {w w1 W:World} {base:Nat} {ok ok':Nat→Prop} {v:Value} {xs:List α}
end
section
variable {P:Program} {ops:Array Oper} {rest:List Oper} {o:Oper} {a:Act} {Q':Exit→Act→World→Prop} {Kc:Act→World→Prop} {α:Type}
end
end Kd
namespace Kd
section
variable {α:Type} {d:Kd α} {e e':Nat} {w w1 W:World} {base:Nat} {ok:Nat→Prop} {u v:Value} {xs:List α}
theorem R_typed (h:d.R e w base ok v xs):∀ k,v.ownBlock=some k→∃ cells,w.heap[k]?=some (.cells cells e (0,0)):=by
 obtain ⟨inner,ho⟩:=R_own h
 exact fun k hk=>own_typed ho k hk
theorem R_apart' (h:d.R e W base ok u xs) (hty:∀ k,v.ownBlock=some k→∃ cells,W.heap[k]?=some (.cells cells e' (0,0))) (ht:∀ q,q ∈ e::d.E→q ≠ e'):d.R e W base (fun k=>ok k∧some k ≠ v.ownBlock) u xs:=by
 refine R_mono (R_bound h) (fun k hk=>⟨hk.1,fun he=>?_⟩)
 obtain ⟨_,_,_,q,hq,cells,hc⟩:=hk
 obtain ⟨cells',hc'⟩:=hty k he.symm
 rw [hc] at hc'
 injection hc' with hc'
 injection hc' with _ hc'
 exact ht q hq hc'
end
end Kd
theorem seg_get {α:Type} (a seg:List α) (o:Nat) (h:o+seg.length≤a.length) (q:Nat) :
  (a.take o ++ seg ++ a.drop (o+seg.length))[q]?=if q<o then a[q]? else if q<o+seg.length then seg[q-o]? else a[q]?:=by
 have hl:(a.take o).length=o:=by rw [List.length_take]; omega
 rw [List.append_assoc]
 by_cases h1:q<o
 ·rw [if_pos h1,List.getElem?_append_left (by omega),List.getElem?_take,if_pos h1]
 ·rw [if_neg h1,List.getElem?_append_right (by omega),hl]
  by_cases h2:q<o+seg.length
  ·rw [if_pos h2,List.getElem?_append_left (by omega)]
  ·rw [if_neg h2,List.getElem?_append_right (by omega),List.getElem?_drop]
   congr 1
   omega
namespace Kd
section
variable {α:Type} {d:Kd α} {e base g n cap:Nat} {ok okp:Nat→Prop} {W:World} {xs:List α}
theorem R_elem (h:d.R e W base ok (.slice (some ⟨g,0,none⟩) n cap) xs) (z:α) (i:Int) (h0:0≤i) (h1:i<n) :
  ∃ c,c.length=d.sz∧d.M W base (fun k=>ok k∧k ≠ g) (xs.getD i.toNat z) c∧(∀ j u,c[j]?=some u→W.cell? ⟨g,i.toNat*d.sz+j,none⟩=some u)∧∀ j,W.frozen? ⟨g,i.toNat*d.sz+j,none⟩=false:=by
 obtain ⟨hn,hnc,hC⟩:=R_reads' h
 obtain ⟨_,inner,ho,hr⟩:=h
 have hil:i.toNat<xs.length:=by omega
 have hseg:i.toNat*d.sz+d.sz≤inner.length:=by rw [hr.1,← Nat.succ_mul]; exact Nat.mul_le_mul_right _ hil
 have hM:=hr.2 i.toNat _ (List.getElem?_eq_getElem hil)
 refine ⟨(inner.drop (i.toNat*d.sz)).take d.sz,by rw [List.length_take,List.length_drop]; omega,?_,fun j u hu=>?_,fun j=>?_⟩
 ·rw [List.getD_eq_getElem?_getD,List.getElem?_eq_getElem hil]
  exact d.M_mono (fun k hk=>⟨hk.1,fun he=>hk.2 (by rw [he]; simp [Value.ownBlock])⟩) hM
 ·rw [List.getElem?_take] at hu
  split at hu
  ·rw [List.getElem?_drop] at hu
   have:=ho.cells (g:=g) (by simp [Value.ownBlock]) _ u hu
   rwa [add_plain] at this
  ·cases hu
 ·obtain ⟨cells,hc⟩:=own_typed ho g (by simp [Value.ownBlock])
  exact blk_frozen hc _
theorem R_seg (h:d.R e W base ok (.slice (some ⟨g,0,none⟩) n cap) xs) (i:Int) (h0:0≤i) (h1:i<n) {c seg:List Value} {j:Nat} (hcl:c.length=d.sz) (hcc:∀ j u,c[j]?=some u→W.cell? ⟨g,i.toNat*d.sz+j,none⟩=some u)
  (hj:j+seg.length≤d.sz) {x':α} (hM:d.M W base okp x' (c.take j ++ seg ++ c.drop (j+seg.length))) (hokp:∀ k,okp k→ok k∧k ≠ g) :
  d.R e (W.setCells g (i.toNat*d.sz+j) seg) base ok (.slice (some ⟨g,0,none⟩) n cap) (xs.set i.toNat x')∧W.grownBy (W.setCells g (i.toNat*d.sz+j) seg) (some g):=by
 obtain ⟨hn,hnc,_⟩:=R_reads' h
 obtain ⟨hok,inner,ho,hr⟩:=h
 have hil:i.toNat<xs.length:=by omega
 have hseg:i.toNat*d.sz+d.sz≤inner.length:=by rw [hr.1,← Nat.succ_mul]; exact Nat.mul_le_mul_right _ hil
 have hin:inner.length=n*d.sz:=by rw [hr.1,hn]
 obtain ⟨ho1,ho2⟩:=ho
 rcases ho2 with ⟨hv,_⟩|⟨g',cap',cur,hv,hb,hh,hnc',hcm,hcs,ht⟩
 ·cases hv
 injection hv with ha _ hc
 injection ha with ha
 injection ha with hg
 subst hg; subst hc
 have hfit:i.toNat*d.sz+j+seg.length≤cur.size:=by
  have:n*d.sz≤cap*d.sz:=Nat.mul_le_mul_right _ hnc
  omega
 obtain ⟨cur',h3,h4,h5⟩:=setCells_row seg (i.toNat*d.sz+j) W cur hh hfit
 obtain ⟨s1,s2,s3,s4⟩:=setCells_same g seg (i.toNat*d.sz+j) W
 have hfar:∀ k,k ≠ g→(W.setCells g (i.toNat*d.sz+j) seg).heap[k]?=W.heap[k]?:=fun k hk=>setCells_far seg _ k hk
 have hcin:∀ q,q<d.sz→c[q]?=inner[i.toNat*d.sz+q]?:=by
  intro q hq
  have hq':q<c.length:=by omega
  have h6:=hcc q _ (List.getElem?_eq_getElem hq')
  rw [cell_of_row W g _ cur e (0,0) hh] at h6
  rw [List.getElem?_eq_getElem hq',← h6,← ht,List.getElem?_take,if_pos (by rw [← hn]; omega),Array.getElem?_toList]
 refine ⟨⟨hok,inner.take (i.toNat*d.sz+j) ++ seg ++ inner.drop (i.toNat*d.sz+j+seg.length),⟨?_,.inr ⟨g,cap,cur',by rw [List.length_set,hn],hb,h3,by rw [List.length_set,← hn]; exact hnc,hcm,by rw [h4,hcs],?_⟩⟩,?_⟩,
  ⟨s1,s2,s3,by rw [s4]; exact Nat.le_refl _,fun k _ hk=>hfar k (fun he=>hk (by rw [he]))⟩⟩
 ·rw [List.length_set]
  simp only [List.length_append,List.length_take,List.length_drop]
  rw [hr.1] at hseg ⊢
  omega
 ·rw [List.length_set,← hn]
  apply List.ext_getElem?
  intro q
  rw [List.getElem?_take,h5]
  rw [seg_get cur.toList seg (i.toNat*d.sz+j) (by rw [Array.length_toList]; omega) q,seg_get inner seg (i.toNat*d.sz+j) (by omega) q]
  have hcur:∀ q,q<n*d.sz→cur.toList[q]?=inner[q]?:=by
   intro q hq
   rw [← ht,List.getElem?_take,if_pos (by rw [← hn]; exact hq)]
  by_cases hq:q<n*d.sz
  ·rw [if_pos hq,hcur q hq]
  ·rw [if_neg hq,if_neg (by omega),if_neg (by omega),List.getElem?_eq_none (by omega)]
 ·refine ⟨?_,fun m p hm=>?_⟩
  ·rw [List.length_set]
   simp only [List.length_append,List.length_take,List.length_drop]
   rw [hr.1] at hseg ⊢
   omega
  ·have hml:m<xs.length:=by
    have:=(List.getElem?_eq_some_iff.1 hm).1
    rwa [List.length_set] at this
   have hmfit:m*d.sz+d.sz≤inner.length:=by rw [hr.1,← Nat.succ_mul]; exact Nat.mul_le_mul_right _ hml
   have hgo:some g=(Value.slice (some ⟨g,0,none⟩) n cap).ownBlock:=by simp [Value.ownBlock]
   by_cases hmi:m=i.toNat
   ·subst hmi
    rw [List.getElem?_set_self (by omega)] at hm
    injection hm with hm
    subst hm
    have hcells:((inner.take (i.toNat*d.sz+j) ++ seg ++ inner.drop (i.toNat*d.sz+j+seg.length)).drop (i.toNat*d.sz)).take d.sz=c.take j ++ seg ++ c.drop (j+seg.length):=by
     apply List.ext_getElem?
     intro q
     rw [List.getElem?_take,List.getElem?_drop,seg_get inner seg _ (by omega),seg_get c seg j (by omega) q]
     by_cases hq:q<d.sz
     ·rw [if_pos hq,hcin q hq]
      by_cases hq1:q<j
      ·rw [if_pos (by omega),if_pos hq1]
      ·rw [if_neg (by omega),if_neg hq1]
       by_cases hq2:q<j+seg.length
       ·rw [if_pos (by omega),if_pos hq2]
        congr 1
        omega
       ·rw [if_neg (by omega),if_neg hq2]
     ·rw [if_neg hq,if_neg (by omega),if_neg (by omega),List.getElem?_eq_none (by omega)]
    rw [hcells]
    refine d.M_mono (fun k hk=>?_) (d.M_move (w1:=W.setCells g (i.toNat*d.sz+j) seg) (fun k hk=>hfar k (hokp k hk).2) hM)
    exact ⟨(hokp k hk).1,fun he=>(hokp k hk).2 (by rw [← hgo] at he; injection he)⟩
   ·rw [List.getElem?_set_ne (by omega)] at hm
    have hold:=hr.2 m p hm
    have hcells:((inner.take (i.toNat*d.sz+j) ++ seg ++ inner.drop (i.toNat*d.sz+j+seg.length)).drop (m*d.sz)).take d.sz=(inner.drop (m*d.sz)).take d.sz:=by
     apply List.ext_getElem?
     intro q
     rw [List.getElem?_take,List.getElem?_take,List.getElem?_drop,List.getElem?_drop,seg_get inner seg _ (by omega)]
     by_cases hq:q<d.sz
     ·rw [if_pos hq,if_pos hq]
      rcases Nat.lt_or_gt_of_ne hmi with hlt|hgt
      ·have:m*d.sz+d.sz≤i.toNat*d.sz:=by rw [← Nat.succ_mul]; exact Nat.mul_le_mul_right _ hlt
       rw [if_pos (by omega)]
      ·have:i.toNat*d.sz+d.sz≤m*d.sz:=by rw [← Nat.succ_mul]; exact Nat.mul_le_mul_right _ hgt
       rw [if_neg (by omega),if_neg (by omega)]
     ·rw [if_neg hq,if_neg hq]
    rw [hcells]
    refine d.M_move (fun k hk=>hfar k (fun he=>hk.2 (by rw [he]; exact hgo))) hold
end
end Kd
namespace Kd
section
variable {α:Type} {F:Kd α→Kd α} {sz:Nat} {E:List Nat} {hs:∀ n,(upto F sz E n).sz=sz} {hE:∀ n q,q ∈ (upto F sz E n).E→q ∈ E}
end
end Kd
namespace Kd
section
variable {P:Program} {ops:Array Oper} {rest:List Oper} {o:Oper} {a:Act} {Q:Exit→Act→World→Prop} {α:Type}
end
end Kd
namespace Kd
section
variable {P:Program} {ops:Array Oper} {rest:List Oper} {o:Oper} {a:Act} {Q:Exit→Act→World→Prop} {α:Type}
end
end Kd
theorem add_add (a:Addr) (i j:Nat):(a.add i).add j=a.add (i+j):=by
 unfold Addr.add
 by_cases h1:i=0<;>by_cases h2:j=0<;>simp [h1,h2,Nat.add_assoc]
namespace Kd
section
variable {α:Type} {k:Kd α} {w:World} {A:Option Addr} {xs:List α} {m c:Nat}
end
end Kd
section
variable {P:Program}
end
theorem string_of_reads {P:Program} {w:World} {src dst e:TypeId} {A:Option Addr} {n c:Nat} {xs:List Int} (hs:P.underlying src=some (.slice e)) (he:P.underlying e=some (.int .u8)) (hd:P.underlying dst=some .string)
  (h:ReadsInt w .u8 A n xs):(convert src dst (.slice A n c)).run P w=.ok (.string (strOfNums xs)) w:=by
 have hn:xs.length=n:=h.1
 rcases A with _|ad
 ·have h0:n=0:=by
   rcases Nat.eq_zero_or_pos n with h0|h0
   ·exact h0
   ·obtain ⟨ad,h',_⟩:=h.2.2 h0
    cases h'
  subst h0
  obtain rfl:xs=[]:=List.eq_nil_of_length_eq_zero hn
  exact run_convert_bytes_nil w src e hs he 0 c dst hd
 ·have hl:(loadCells ad n).run P w=.ok (xs.map (Value.int .u8)).toArray w:=by
   have:=run_loadCells_list (P:=P) w ad (xs.map (Value.int .u8)) (fun j v hj=>by
    have hjl:j<xs.length:=by
     rcases Nat.lt_or_ge j xs.length with h'|h'
     ·exact h'
     ·rw [List.getElem?_eq_none (by rw [List.length_map]; exact h')] at hj
      cases hj
    obtain ⟨ad',he',hc⟩:=h.2.2 (by omega)
    injection he' with he'
    subst he'
    rw [hc j (by omega)]
    rw [List.getElem?_map,List.getElem?_eq_getElem hjl] at hj
    simp at hj
    subst hj
    simp [List.getD_eq_getElem?_getD,List.getElem?_eq_getElem hjl])
   simpa [hn] using this
  rw [run_convert_bytes_string w src dst e _ n c hs he hd,run_bytesToString w ad n c xs hl,foldl_push_bytes]
  simp [strOfNums,ByteArray.empty,ByteArray.emptyWithCapacity]
  rfl
theorem Kd.C_string {P:Program} {w:World} {src dst e:TypeId} {A:Option Addr} {n c:Nat} {xs:List Int} (hs:P.underlying src=some (.slice e)) (he:P.underlying e=some (.int .u8)) (hd:P.underlying dst=some .string)
  (h:(Kd.int .u8).C w A n xs):(convert src dst (.slice A n c)).run P w=.ok (.string (strOfNums xs)) w :=
 string_of_reads hs he hd (Kd.reads_of_C (enc:=Value.int .u8) (d:=(0:Int)) (h1:=fun _=>rfl) h)
theorem below_size {w W:World} (h:Below w.heap.size w W):w.heap.size≤W.heap.size:=h.size
theorem below_step {w W w2:World} (h:Below w.heap.size w W) (k:Below W.heap.size W w2):Below w.heap.size w w2:=below_then h h.size k
theorem ReadsInt.nil (W:World) (k:IntKind):ReadsInt W k none ([]:List Int).length []:=⟨rfl,by simp,fun h=>absurd h (Nat.lt_irrefl 0)⟩
theorem ReadsInt.drewN {W:World} {k:IntKind} {A:Option Addr} {n:Nat} {xs:List Int} (h:ReadsInt W k A n xs) (m:Nat):ReadsInt (W.drewN m) k A n xs:=h
theorem below_set {w W:World} {g j:Nat} {v:Value} (h:Below w.heap.size w W) (hg:w.heap.size≤g):Below w.heap.size w (W.setCell ⟨g,j,none⟩ v):=h.setCell hg _
theorem keep_cell {w W:World} {g:Nat} (h:KeepBut w W g none) {a:Addr} {v:Value} (hc:w.cell? a=some v) (hne:a.block ≠ g):W.cell? a=some v:=by
 have:=h.2 a.block (World.block_lt_of_cell? w a hc) hne (by simp)
 simpa [World.cell?,this] using hc
theorem add_block (a:Addr) (i:Nat):(a.add i).block=a.block:=by unfold Addr.add; split<;>rfl
theorem ReadsOf.nil {α:Type} (enc:α→Value) (d:α) (W:World):ReadsOf enc d W none ([]:List α).length []:=⟨rfl,by simp,fun h=>absurd h (Nat.lt_irrefl 0)⟩
theorem ReadsOf.drewN {α:Type} {enc:α→Value} {d:α} {W:World} {A:Option Addr} {n:Nat} {xs:List α} (h:ReadsOf enc d W A n xs) (m:Nat):ReadsOf enc d (W.drewN m) A n xs:=h
theorem ReadsInt.keep {w W:World} {k:IntKind} {A:Option Addr} {n g:Nat} {xs:List Int} (h:ReadsInt w k A n xs) (hk:KeepBut w W g none) (hf:∀ ad,A=some ad→0<n→ad.block ≠ g):ReadsInt W k A n xs :=
 ⟨h.1,h.2.1,fun hn=>by
  obtain ⟨ad,e,hc⟩:=h.2.2 hn
  exact ⟨ad,e,fun j hj=>keep_cell hk (hc j hj) (by rw [add_block]; exact hf ad e hn)⟩⟩
theorem ReadsOf.keep {α:Type} {enc:α→Value} {d:α} {w W:World} {A:Option Addr} {n g:Nat} {xs:List α} (h:ReadsOf enc d w A n xs) (hk:KeepBut w W g none) (hf:∀ ad,A=some ad→0<n→ad.block ≠ g):ReadsOf enc d W A n xs :=
 ⟨h.1,h.2.1,fun hn=>by
  obtain ⟨ad,e,hc⟩:=h.2.2 hn
  exact ⟨ad,e,fun j hj=>keep_cell hk (hc j hj) (by rw [add_block]; exact hf ad e hn)⟩⟩
theorem blk_put {w:World} {g:Nat} {t:TypeId} {cs cs':Array Value} (h:w.heap[g]?=some (.cells cs t (0,0))) (i:Nat) (u:Value) (e:cs.setIfInBounds i u=cs'):(w.setCell ⟨g,i,none⟩ u).heap[g]?=some (.cells cs' t (0,0)):=e ▸ blk_set h i u
theorem below_drew1 {base:Nat} {w W:World} (h:Below base w W):Below base w W.drew:=h.drew
namespace Kd
section
variable {α β:Type} {d:Kd α} {d':Kd β} {e e' base base' n:Nat} {ok ok':Nat→Prop} {w W w1 W1:World} {v u:Value} {xs:List α} {ys:List β} {A:Option Addr} {c:Nat}
end
section
variable {α:Type} {enc:α→Value} {h1:∀ x,(enc x).oneCell'=true} {w W:World} {A:Option Addr} {n g:Nat} {xs:List α}
end
end Kd
namespace Kd
section
variable {α:Type} {d:Kd α} {e base g:Nat} {ok:Nat→Prop} {w w1:World} {v:Value} {xs:List α} {o:Obj}
end
end Kd
section
variable {P:Program} {ops:Array Oper} {rest:List Oper} {o:Oper} {a:Act} {Q:Exit→Act→World→Prop}
theorem box_event {W:World} (hgd:o.guard=none) {N:Tmp} (_hd:o.dst=some N) {cs:Array Value} {t:TypeId}
  (hrun:(execOp a.eval o).run P W=.ok (.value (.pointer (some ⟨W.heap.size,0,none⟩))) (W.alloc (.cells cs t (0,0))))
  (h:∀ g,g=W.heap.size→∀ w1,w1.heap[g]?=some (.cells cs t (0,0))→Below W.heap.size W w1→wpList P ops Q rest (a.put o.dst (.pointer (some ⟨g,0,none⟩))) w1):wpList P ops Q (o::rest) a W :=
 Kd.event_run hgd hrun (h _ rfl _ (blk_new W _) (below_alloc (Below.refl _ _) _))
end
namespace Kd
section
variable {α:Type} {enc:α→Value} {h1:∀ x,(enc x).oneCell'=true} {e base g n cap:Nat} {ok:Nat→Prop} {W:World} {xs:List α}
end
end Kd
section
variable {P:Program} {ops:Array Oper} {rest:List Oper} {o:Oper} {a:Act} {Q:Exit→Act→World→Prop}
theorem store_event {W w1:World} (hgd:o.guard=none) {t:TypeId} {p:Tmp} {v:Operand} (_ho:o.op=.store t (.tmp p) v) (hN:o.dst=none)
  (hrun:(execOp a.eval o).run P W=.ok .skip w1) (h:∀ w',w'=w1→wpList P ops Q rest a w'):wpList P ops Q (o::rest) a W:=by
 refine wpList_plain hgd fun K hK=>?_
 unfold Oper.wp
 rw [hrun]
 show K (a.put o.dst undef) w1
 rw [hN]
 exact hK _ _ (h _ rfl)
end
namespace Kd
section
variable {α:Type} {enc:α→Value} {h1:∀ x,(enc x).oneCell'=true} {e base g n cap:Nat} {ok:Nat→Prop} {W:World} {xs:List α}
end
end Kd
section
variable {P:Program} {ops:Array Oper} {rest:List Oper} {o:Oper} {a:Act} {Q:Exit→Act→World→Prop} {W:World}
theorem gate_dst {N:Tmp} (_hN:o.dst=some N) (h:wpList P ops Q (o::rest) a W):wpList P ops Q (o::rest) a W:=h
theorem gate_store {t:TypeId} {p:Tmp} {v:Operand} (_ho:o.op=.store t (.tmp p) v) (h:wpList P ops Q (o::rest) a W):wpList P ops Q (o::rest) a W:=h
end
section
variable {P:Program} {ops:Array Oper} {o:Oper} {a:Act} {Q:Exit→Act→World→Prop} {Kc:Act→World→Prop}
namespace Kd
variable {α:Type}
end Kd
end
inductive Vals (P:Program) (tmps:Array Value) (w:World):List ResultVar→List Value→Prop where
 |nil:Vals P tmps w [] []
 |tmp {u:Tmp} {rs:List ResultVar} {vs:List Value} (h:Vals P tmps w rs vs):Vals P tmps w (.tmp u::rs) (tmps.getD u undef::vs)
 |cell {p:Tmp} {ty:TypeId} {rs:List ResultVar} {vs:List Value} (g:Nat) (t:TypeId) (cs:Array Value) (fr:Nat × Nat) (d:TypeDesc)
   (hp:tmps.getD p undef=.pointer (some ⟨g,0,none⟩)) (hg:w.heap[g]?=some (.cells cs t fr))
   (hu:P.underlying ty=some d) (hd:(match d with|.struct _|.array _ _=>true|_=>false)=true) (hi:(P.info? ty).map (·.size)=some cs.size)
   (h:Vals P tmps w rs vs):Vals P tmps w (.cell p ty::rs) (.agg cs::vs)
section
variable {P:Program} {tmps:Array Value} {w:World}
end
namespace Kd
section
variable {P:Program} {α:Type}
end
section
variable {P:Program} {ops:Array Oper} {rest:List Oper} {o:Oper} {a:Act} {Q:Exit→Act→World→Prop} {Kc:Act→World→Prop} {α:Type}
end
end Kd
end Go.Proofs.YtdlhidjphaaklaaGreatW.PrintWords
end
section
namespace Go.Proofs.YtdlhidjphaaklaaGreatW.PrintLast
section
variable {P:Program} {ops:Array Oper} {Q:Exit→Act→World→Prop} {md:Region.Mode} {S:World→Prop} {ds:List Nat}
def Region.reachB (md:Region.Mode) (ops:Array Oper) (i:Nat):Nat→Nat→Bool
 |0,_=>false
 |fuel+1,d=>match ops[d]? with
  |some o=>o.after.any fun e=>Region.binds md e && (e.on == i || Region.reachB md ops i fuel e.on)
  |none=>false
def Region.closedB (md:Region.Mode) (ops:Array Oper) (listed:Array Bool):Bool :=
 (List.range ops.size).all fun j=>!listed.getD j false || match ops[j]? with
  |some o=>o.after.all fun e=>!Region.binds md e || listed.getD e.on false
  |none=>true
def Region.lastB (md:Region.Mode) (ops:Array Oper) (listed:Array Bool) (ds:List Nat) (i:Nat):Bool :=
 ds.all fun d=>listed.getD d true || Region.reachB md ops i ops.size d
def ListedClosed (md:Region.Mode) (ops:Array Oper) (listed:Array Bool):Prop :=
 ∀ j oj,ops[j]?=some oj→listed.getD j false=true→∀ e ∈ oj.after,Region.binds md e=true→listed.getD e.on false=true
theorem Region.closedB_spec {listed:Array Bool} (h:Region.closedB md ops listed=true):ListedClosed md ops listed:=by
 intro j oj hj hl e he hb
 have hlt:j<ops.size:=(Array.getElem?_eq_some_iff.1 hj).1
 have h1:=List.all_eq_true.1 h j (List.mem_range.2 hlt)
 simp only [hl,hj,Bool.not_true,Bool.false_or] at h1
 have h2:=Array.all_eq_true_iff_forall_mem.1 h1 e he
 simpa [hb] using h2
theorem ListedClosed.set {listed:Array Bool} {i:Nat} (h:ListedClosed md ops listed) (hi:i ∈ Region.ready md ops listed):ListedClosed md ops (listed.setIfInBounds i true):=by
 obtain ⟨_,oi,hoi,hall⟩:=mem_ready.1 hi
 intro j oj hj hl e he hb
 by_cases hij:i=j
 ·subst hij
  have:oj=oi:=Option.some.inj (hj.symm.trans hoi)
  subst this
  exact getD_set_true (hall e he hb)
 ·rw [getD_set_ne false hij] at hl
  exact getD_set_true (h j oj hj hl e he hb)
theorem Region.reach_listed {listed:Array Bool} {i:Nat} (hc:ListedClosed md ops listed):∀ (fuel d:Nat),Region.reachB md ops i fuel d=true→listed.getD d false=true→listed.getD i false=true
 |0,_,h,_=>by simp [Region.reachB] at h
 |fuel+1,d,h,hl=>by
  unfold Region.reachB at h
  cases ho:ops[d]? with
  |none=>rw [ho] at h; simp at h
  |some o =>
   rw [ho] at h
   obtain ⟨e,he,h1⟩:=Array.any_eq_true'.1 h
   simp only [Bool.and_eq_true,Bool.or_eq_true,beq_iff_eq] at h1
   have hle:=hc d o ho hl e he h1.1
   rcases h1.2 with h2|h2
   ·rw [← h2]; exact hle
   ·exact Region.reach_listed hc fuel e.on h2 hle
theorem Region.reach_not_ready {listed:Array Bool} {i d fuel:Nat} (hc:ListedClosed md ops listed) (hr:Region.reachB md ops i fuel d=true) (hun:listed.getD i true=false):d ∉ Region.ready md ops listed:=by
 intro hd
 obtain ⟨_,o,ho,hall⟩:=mem_ready.1 hd
 have hi:listed.getD i false=true:=by
  cases fuel with
  |zero=>simp [Region.reachB] at hr
  |succ n =>
   unfold Region.reachB at hr
   rw [ho] at hr
   obtain ⟨e,he,h1⟩:=Array.any_eq_true'.1 hr
   simp only [Bool.and_eq_true,Bool.or_eq_true,beq_iff_eq] at h1
   have hle:=hall e he h1.1
   rcases h1.2 with h2|h2
   ·rw [← h2]; exact hle
   ·exact Region.reach_listed hc n e.on h2 hle
 rcases Nat.lt_or_ge i listed.size with h'|h'
 ·simp [h'] at hun hi
  rw [hun] at hi
  cases hi
 ·simp [Array.getElem?_eq_none h'] at hun
def wpAnyLast (P:Program) (md:Region.Mode) (ops:Array Oper) (Q:Exit→Act→World→Prop) (S:World→Prop) (ds:List Nat):Nat→Array Bool→Act→World→Prop
 |0,listed,a,w=>Region.ready md ops listed=[]∧Q .normal a w
 |fuel+1,listed,a,w =>
  (Region.ready md ops listed=[]→Q .normal a w) ∧
  ∀ i ∈ Region.ready md ops listed,wpOp P ops Q i (fun a' w'=>(i ∉ ds→S w→S w')∧wpAnyLast P md ops Q S ds fuel (listed.setIfInBounds i true) a' w') a w
theorem wpAny_of_last:∀ (fuel:Nat) (listed:Array Bool) (a:Act) (w:World),wpAnyLast P md ops Q S ds fuel listed a w→wpAny P md ops Q fuel listed a w
 |0,_,_,_,h=>h
 |fuel+1,_,_,_,h=>⟨h.1,fun i hi=>wpOp_mono (fun a' w' h'=>wpAny_of_last fuel _ a' w' h'.2) (h.2 i hi)⟩
theorem wpAnyLast_first {i:Nat} {oi:Oper} {v:Value} (hi:ops[i]?=some oi) (hsel:∀ (j:Nat) (o:Oper) cs b,ops[j]?=some o→o.op ≠ .select cs b)
  (hQ:∀ c a w,Q (.panic c) (a.put oi.dst v) w→Q (.panic c) a w) (n:Nat) :
  ∀ (fuel:Nat) (listed:Array Bool) (a:Act) (w:World),
   (∀ j oj,ops[j]?=some oj→j ≠ i→listed.getD j true=false→(∀ e ∈ oj.after,Region.binds md e=true→e.on ≠ i)→oi.apart ops oj=true) →
   ListedClosed md ops listed→(∀ d ∈ ds,listed.getD d true=false→Region.reachB md ops i n d=true) →
   i ∈ Region.ready md ops listed→YieldsIf P ops S oi v a→S w →
   wpAnyLast P md ops Q S ds fuel (listed.setIfInBounds i true) (a.put oi.dst v) w→wpAnyLast P md ops Q S ds (fuel+1) listed a w:=by
 intro fuel
 induction fuel with
 |zero =>
  intro listed a w _ _ _ hr hy hS H
  refine ⟨fun h=>(by rw [h] at hr; cases hr),fun j hj=>?_⟩
  by_cases hji:j=i
  ·subst hji; exact hy.wpOp hi hS ⟨fun _ h=>h,H⟩
  ·have:=ready_mono hj hji
   rw [H.1] at this
   cases this
 |succ fuel ih =>
  intro listed a w hfree hc hd hr hy hS H
  refine ⟨fun h=>(by rw [h] at hr; cases hr),fun j hj=>?_⟩
  by_cases hji:j=i
  ·subst hji; exact hy.wpOp hi hS ⟨fun _ h=>h,H⟩
  ·have h1:=H.2 j (ready_mono hj hji)
   obtain ⟨hjun,oj,hoj,hall⟩:=mem_ready.1 hj
   have hiun:=(mem_ready.1 hr).1
   have hnot:∀ e ∈ oj.after,Region.binds md e=true→e.on ≠ i:=fun e he hb heq=>by
    have h1:=hall e he hb
    rw [heq] at h1
    rcases Nat.lt_or_ge i listed.size with h'|h'
    ·simp [h'] at hiun h1; rw [hiun] at h1; cases h1
    ·simp [Array.getElem?_eq_none h'] at h1
   have hjd:j ∉ ds:=fun hm=>Region.reach_not_ready hc (hd j hm hjun) hiun hj
   have h2:=wpOp_putIf hoj (hfree j oj hoj hji hjun hnot) (fun cs b=>hsel i oi cs b hi) (fun cs b=>hsel j oj cs b hoj) hQ hy h1
   have hfree':∀ k ok,ops[k]?=some ok→k ≠ i→(listed.setIfInBounds j true).getD k true=false →
     (∀ e ∈ ok.after,Region.binds md e=true→e.on ≠ i)→oi.apart ops ok=true:=fun k ok hk hki hun hno=>by
    refine hfree k ok hk hki ?_ hno
    by_cases hjk:j=k
    ·subst hjk; exact hjun
    ·rw [getD_set_ne true hjk] at hun; exact hun
   have hd':∀ d ∈ ds,(listed.setIfInBounds j true).getD d true=false→Region.reachB md ops i n d=true:=fun d hm hun=>by
    refine hd d hm ?_
    by_cases hjk:j=d
    ·subst hjk; exact hjun
    ·rw [getD_set_ne true hjk] at hun; exact hun
   refine wpOp_mono (fun a' w' h3=>⟨h3.2.1,ih (listed.setIfInBounds j true) a' w' hfree' (hc.set hj) hd' (ready_mono hr (Ne.symm hji)) h3.1 (h3.2.1 hjd hS) ?_⟩) h2
   rw [Array.setIfInBounds_comm _ _ hji]
   exact h3.2.2
theorem wpAnyLast_any {i:Nat} {oi:Oper} {v:Value} (hi:ops[i]?=some oi) (hsel:∀ (j:Nat) (o:Oper) cs b,ops[j]?=some o→o.op ≠ .select cs b)
  (hQ:∀ c a w,Q (.panic c) (a.put oi.dst v) w→Q (.panic c) a w) :
  ∀ (fuel:Nat) (listed:Array Bool) (a:Act) (w:World),
   (∀ j oj,ops[j]?=some oj→j ≠ i→listed.getD j true=false→(∀ e ∈ oj.after,Region.binds md e=true→e.on ≠ i)→oi.apart ops oj=true) →
   i ∈ Region.ready md ops listed→Yields P ops oi v a →
   wpAnyLast P md ops Q S ds fuel (listed.setIfInBounds i true) (a.put oi.dst v) w→wpAnyLast P md ops Q S ds (fuel+1) listed a w:=by
 intro fuel
 induction fuel with
 |zero =>
  intro listed a w _ hr hy H
  refine ⟨fun h=>(by rw [h] at hr; cases hr),fun j hj=>?_⟩
  by_cases hji:j=i
  ·subst hji; exact (hy.yieldsIf (S:=fun _=>True)).wpOp hi trivial ⟨fun _ h=>h,H⟩
  ·have:=ready_mono hj hji
   rw [H.1] at this
   cases this
 |succ fuel ih =>
  intro listed a w hfree hr hy H
  refine ⟨fun h=>(by rw [h] at hr; cases hr),fun j hj=>?_⟩
  by_cases hji:j=i
  ·subst hji; exact (hy.yieldsIf (S:=fun _=>True)).wpOp hi trivial ⟨fun _ h=>h,H⟩
  ·have h1:=H.2 j (ready_mono hj hji)
   obtain ⟨hjun,oj,hoj,hall⟩:=mem_ready.1 hj
   have hiun:=(mem_ready.1 hr).1
   have hnot:∀ e ∈ oj.after,Region.binds md e=true→e.on ≠ i:=fun e he hb heq=>by
    have h1:=hall e he hb
    rw [heq] at h1
    rcases Nat.lt_or_ge i listed.size with h'|h'
    ·simp [h'] at hiun h1; rw [hiun] at h1; cases h1
    ·simp [Array.getElem?_eq_none h'] at h1
   have h2:=wpOp_put hoj (hfree j oj hoj hji hjun hnot) (fun cs b=>hsel i oi cs b hi) (fun cs b=>hsel j oj cs b hoj) hQ hy h1
   have hfree':∀ k ok,ops[k]?=some ok→k ≠ i→(listed.setIfInBounds j true).getD k true=false →
     (∀ e ∈ ok.after,Region.binds md e=true→e.on ≠ i)→oi.apart ops ok=true:=fun k ok hk hki hun hno=>by
    refine hfree k ok hk hki ?_ hno
    by_cases hjk:j=k
    ·subst hjk; exact hjun
    ·rw [getD_set_ne true hjk] at hun; exact hun
   refine wpOp_mono (fun a' w' h3=>⟨h3.2.1,ih (listed.setIfInBounds j true) a' w' hfree' (ready_mono hr (Ne.symm hji)) h3.1 ?_⟩) h2
   rw [Array.setIfInBounds_comm _ _ hji]
   exact h3.2.2
theorem wpAnyLast_take {i:Nat} {oi:Oper} {v:Value} {fuel:Nat} {listed:Array Bool} {a:Act} {w:World} (hi:ops[i]?=some oi)
  (hs:Region.noSelect ops=true) (hf:Region.free md ops listed i=true) (hr:(Region.ready md ops listed).contains i=true)
  (hc:Region.closedB md ops listed=true) (hl:Region.lastB md ops listed ds i=true)
  (hQ:∀ c a w,Q (.panic c) (a.put oi.dst v) w→Q (.panic c) a w) (hy:YieldsIf P ops S oi v a) (hS:S w)
  (h:wpAnyLast P md ops Q S ds fuel (listed.setIfInBounds i true) (a.put oi.dst v) w):wpAnyLast P md ops Q S ds (fuel+1) listed a w :=
 wpAnyLast_first hi (Region.noSelect_spec hs) hQ ops.size fuel listed a w (Region.free_spec hi hf) (Region.closedB_spec hc)
  (fun d hm hun=>by have:=List.all_eq_true.1 hl d hm; rw [hun] at this; simpa using this) (by simpa using hr) hy hS h
theorem wpAnyLast_all {rs:List Nat} {fuel:Nat} {listed:Array Bool} {a:Act} {w:World} (hr:Region.ready md ops listed=rs) (hne:rs ≠ [])
  (h:∀ i ∈ rs,wpOp P ops Q i (fun a' w'=>(i ∉ ds→S w→S w')∧wpAnyLast P md ops Q S ds fuel (listed.setIfInBounds i true) a' w') a w):wpAnyLast P md ops Q S ds (fuel+1) listed a w :=
 ⟨fun h0=>absurd (hr ▸ h0) hne,hr ▸ h⟩
theorem wpAnyLast_done {listed:Array Bool} {a:Act} {w:World} (hr:Region.ready md ops listed=[]) (h:Q .normal a w) :
  ∀ fuel,wpAnyLast P md ops Q S ds fuel listed a w
 |0=>⟨hr,h⟩
 |_+1=>⟨fun _=>h,by rw [hr]; simp⟩
theorem wp_region_last {id:Nat} {a:Act} {w:World} (hm:P.follows .mixedOrders=true)
  (h:wpAnyLast P .any ops Q S ds ops.size (Array.replicate ops.size false) a { w with drawn:=w.drawn+1 }):(Code.region id ops true).wp P Q a w :=
 wp_region_any hm (wpAny_of_last _ _ _ _ h)
end
section
variable {P:Program} {ops:Array Oper} {Q:Exit→Act→World→Prop} {md:Region.Mode} {S:World→Prop} {ds:List Nat}
def AllReadyL (P:Program) (md:Region.Mode) (ops:Array Oper) (Q:Exit→Act→World→Prop) (S:World→Prop) (ds:List Nat) (fuel:Nat) (listed:Array Bool) (a:Act) (w:World) (rs:List Nat):Prop :=
 ∀ i ∈ rs,wpOp P ops Q i (fun a' w'=>(i ∉ ds→S w→S w')∧wpAnyLast P md ops Q S ds fuel (listed.setIfInBounds i true) a' w') a w
theorem AllReadyL.nil {fuel:Nat} {listed:Array Bool} {a:Act} {w:World}:AllReadyL P md ops Q S ds fuel listed a w []:=fun _ h=>by cases h
theorem AllReadyL.cons {fuel:Nat} {listed:Array Bool} {a:Act} {w:World} {i:Nat} {o:Oper} {rs:List Nat} (ho:ops[i]?=some o) (hd:i ∉ ds)
  (h:∀ K':Act→World→Prop,Shut (∀ a w,S w→(S w→wpAnyLast P md ops Q S ds fuel (listed.setIfInBounds i true) a w)→K' a w)→if Region.wanted o (yielded ops a.tmps)=true then Oper.wp P o a w K' Q else K' (a.put o.dst undef) w)
  (hs:AllReadyL P md ops Q S ds fuel listed a w rs):AllReadyL P md ops Q S ds fuel listed a w (i::rs):=fun j hj=>by
 rcases List.mem_cons.1 hj with rfl|hj
 ·exact wpOp_step ho (fun K' hK=>h K' (fun a w hS hW=>hK a w ⟨fun _ _=>hS,hW hS⟩))
 ·exact hs j hj
theorem AllReadyL.cons_last {fuel:Nat} {listed:Array Bool} {a:Act} {w:World} {i:Nat} {o:Oper} {rs:List Nat} (ho:ops[i]?=some o) (hd:i ∈ ds)
  (h:∀ K':Act→World→Prop,Shut (∀ a w,wpAnyLast P md ops Q S ds fuel (listed.setIfInBounds i true) a w→K' a w)→if Region.wanted o (yielded ops a.tmps)=true then Oper.wp P o a w K' Q else K' (a.put o.dst undef) w)
  (hs:AllReadyL P md ops Q S ds fuel listed a w rs):AllReadyL P md ops Q S ds fuel listed a w (i::rs):=fun j hj=>by
 rcases List.mem_cons.1 hj with rfl|hj
 ·exact wpOp_step ho (fun K' hK=>h K' (fun a w hW=>hK a w ⟨fun hn=>absurd hd hn,hW⟩))
 ·exact hs j hj
theorem wpAnyLast_ready {rs:List Nat} {fuel:Nat} {listed:Array Bool} {a:Act} {w:World} (hr:Region.ready md ops listed=rs) (hne:rs ≠ [])
  (h:AllReadyL P md ops Q S ds fuel listed a w rs):wpAnyLast P md ops Q S ds (fuel+1) listed a w:=wpAnyLast_all hr hne h
theorem start_ {id n:Nat} {a:Act} {w:World} (l:Array Bool) (hm:P.follows .mixedOrders=true) (hn:ops.size=n) (hl:Array.replicate n false=l) (hS:S w.drew)
  (h:S w.drew→wpAnyLast P .any ops Q S ds n l a w.drew):(Code.region id ops true).wp P Q a w:=by
 subst hn
 subst hl
 exact wp_region_last hm (h hS)
def takeB (md:Region.Mode) (ops:Array Oper) (ds:List Nat) (l l':Array Bool) (i:Nat):Bool :=
 Region.noSelect ops && Region.free md ops l i && (Region.ready md ops l).contains i && Region.closedB md ops l && Region.lastB md ops l ds i && (l.setIfInBounds i true == l')
theorem take_ {i:Nat} {N:Option Tmp} {oi:Oper} {v:Value} {fuel:Nat} {l:Array Bool} {a:Act} {w:World} (l':Array Bool) (hi:ops[i]?=some oi) (hN:oi.dst=N) (hc:takeB md ops ds l l' i=true)
  (hQ:∀ c a w,Q (.panic c) (a.put oi.dst v) w→Q (.panic c) a w) (hy:YieldsIf P ops S oi v a) (hS:S w) {a':Act} (ha:a.put N v=a')
  (h:wpAnyLast P md ops Q S ds fuel l' a' w):wpAnyLast P md ops Q S ds (fuel+1) l a w:=by
 subst ha
 subst hN
 simp only [takeB,Bool.and_eq_true,beq_iff_eq] at hc
 obtain ⟨⟨⟨⟨⟨h1,h2⟩,h3⟩,h4⟩,h5⟩,h6⟩:=hc
 subst h6
 exact wpAnyLast_take hi h1 h2 h3 h4 h5 hQ hy hS h
def anyB (md:Region.Mode) (ops:Array Oper) (l l':Array Bool) (i:Nat):Bool :=
 Region.noSelect ops && Region.free md ops l i && (Region.ready md ops l).contains i && (l.setIfInBounds i true == l')
theorem pure_ {i:Nat} {N:Option Tmp} {oi:Oper} {v:Value} {fuel:Nat} {l:Array Bool} {a:Act} {w:World} (l':Array Bool) (hi:ops[i]?=some oi) (hN:oi.dst=N) (hc:anyB md ops l l' i=true)
  (hQ:∀ c a w,Q (.panic c) (a.put oi.dst v) w→Q (.panic c) a w) (hy:Yields P ops oi v a) {a':Act} (ha:a.put N v=a')
  (h:wpAnyLast P md ops Q S ds fuel l' a' w):wpAnyLast P md ops Q S ds (fuel+1) l a w:=by
 subst ha
 subst hN
 simp only [anyB,Bool.and_eq_true,beq_iff_eq] at hc
 obtain ⟨⟨⟨h1,h2⟩,h3⟩,h6⟩:=hc
 subst h6
 exact wpAnyLast_any hi (Region.noSelect_spec h1) hQ fuel l a w (Region.free_spec hi h2) (by simpa using h3) hy h
def readyB (md:Region.Mode) (ops:Array Oper) (l l':Array Bool) (i:Nat):Bool:=(Region.ready md ops l == [i]) && (l.setIfInBounds i true == l')
theorem one_ {i:Nat} {N:Option Tmp} {oi:Oper} {fuel:Nat} {l:Array Bool} {a:Act} {w:World} (l':Array Bool) (hi:ops[i]?=some oi) (hN:oi.dst=N) (hc:readyB md ops l l' i=true) (hd:i ∉ ds)
  (h:∀ K:Act→World→Prop,Shut (∀ a' w',S w'→(S w'→wpAnyLast P md ops Q S ds fuel l' a' w')→K a' w')→if Region.wanted oi (yielded ops a.tmps)=true then Oper.wp P oi a w K Q else K (a.put N undef) w) :
  wpAnyLast P md ops Q S ds (fuel+1) l a w:=by
 subst hN
 simp only [readyB,Bool.and_eq_true,beq_iff_eq] at hc
 obtain ⟨h1,h2⟩:=hc
 subst h2
 exact wpAnyLast_ready h1 (by simp) (AllReadyL.cons hi hd (fun K hK=>h K hK) AllReadyL.nil)
theorem last_ {i:Nat} {N:Option Tmp} {oi:Oper} {fuel:Nat} {l:Array Bool} {a:Act} {w:World} (l':Array Bool) (hi:ops[i]?=some oi) (hN:oi.dst=N) (hc:readyB md ops l l' i=true) (hd:i ∈ ds)
  (h:∀ K:Act→World→Prop,Shut (∀ a' w',wpAnyLast P md ops Q S ds fuel l' a' w'→K a' w')→if Region.wanted oi (yielded ops a.tmps)=true then Oper.wp P oi a w K Q else K (a.put N undef) w) :
  wpAnyLast P md ops Q S ds (fuel+1) l a w:=by
 subst hN
 simp only [readyB,Bool.and_eq_true,beq_iff_eq] at hc
 obtain ⟨h1,h2⟩:=hc
 subst h2
 exact wpAnyLast_ready h1 (by simp) (AllReadyL.cons_last hi hd (fun K hK=>h K hK) AllReadyL.nil)
theorem done_ {l:Array Bool} {a:Act} {w:World} {n:Nat} (hr:(Region.ready md ops l == [])=true) (h:Q .normal a w):wpAnyLast P md ops Q S ds n l a w:=wpAnyLast_done (by simpa using hr) h n
theorem norm_ {fuel:Nat} {l:Array Bool} {a a':Act} {w:World} (ha:a=a') (h:wpAnyLast P md ops Q S ds fuel l a' w):wpAnyLast P md ops Q S ds fuel l a w:=by
 subst ha
 exact h
theorem call_ {oi:Oper} {N:Option Tmp} {a:Act} {w:World} {K:Act→World→Prop} (f:FuncId) (args:Array Value) (hw:Region.wanted oi (yielded ops a.tmps)=true) (hN:oi.dst=N) (hrun:(execOp a.eval oi).run P w=.ok (.enter f args) w)
  (h:Calls P f args w fun e w'=>∃ v,e=.returned v∧K (a.put N v) w'):if Region.wanted oi (yielded ops a.tmps)=true then Oper.wp P oi a w K Q else K (a.put N undef) w:=by
 rw [if_pos hw]
 subst hN
 unfold Oper.wp
 rw [hrun,Oper.upon_enter]
 refine h.mono fun e w'' hh=>?_
 obtain ⟨v,rfl,hk⟩:=hh
 exact hk
theorem enters_ {f:FuncId} {fn:Func} (hf:P.funcs[f]?=some fn) (hname:(fn.name == "runtime.NumGoroutine")=false) (hb:fn.body.isSome=true) (args:Array Value) (w:World):(callFunc f args).run P w=.ok (.enter f args) w:=by
 have h1:fn.name ≠ "runtime.NumGoroutine":=by simpa using hname
 obtain ⟨c,hc⟩:=Option.isSome_iff_exists.1 hb
 simp [callFunc,hf,h1,hc]
theorem goes_ {oi:Oper} {N:Option Tmp} {a:Act} {w:World} {K:Act→World→Prop} {f:FuncId} {fn:Func} {as_:Array Operand} {ts:Array TypeId} (hf:P.funcs[f]?=some fn) (hname:(fn.name == "runtime.NumGoroutine")=false) (hb:fn.body.isSome=true) (args:Array Value)
  (hw:Region.wanted oi (yielded ops a.tmps)=true) (hN:oi.dst=N) (hop:oi.op=.call { callee:=.value (.func f),args:=as_,argTypes:=ts }) (hargs:as_.map a.eval=args)
  (h:Calls P f args w fun e w'=>∃ v,e=.returned v∧K (a.put N v) w'):if Region.wanted oi (yielded ops a.tmps)=true then Oper.wp P oi a w K Q else K (a.put N undef) w:=by
 refine call_ f args hw hN ?_ h
 have he:=enters_ hf hname hb args w
 unfold execOp
 simp [hop,resolve,Deferred.ofValue,invoke,Act.eval,hargs,he]
theorem goesL_ {rest:List Oper} {oi:Oper} {a:Act} {w:World} (N:Option Tmp) (hd:oi.dst=N) (hg:oi.guard=none) {f:FuncId} {fn:Func} {as_:Array Operand} {ts:Array TypeId} (hf:P.funcs[f]?=some fn) (hname:(fn.name == "runtime.NumGoroutine")=false) (hb:fn.body.isSome=true) (args:Array Value)
  (hop:oi.op=.call { callee:=.value (.func f),args:=as_,argTypes:=ts }) (hargs:as_.map a.eval=args)
  (h:Calls P f args w fun e w'=>∃ v,e=.returned v∧wpList P ops Q rest (a.put N v) w'):wpList P ops Q (oi::rest) a w:=by
 refine wpList_plain hg fun K hK=>?_
 have he:=enters_ hf hname hb args w
 have hrun:(execOp a.eval oi).run P w=.ok (.enter f args) w:=by
  unfold execOp
  simp [hop,resolve,Deferred.ofValue,invoke,Act.eval,hargs,he]
 unfold Oper.wp
 rw [hrun,Oper.upon_enter]
 refine h.mono fun e w'' hh=>?_
 obtain ⟨v,rfl,hk⟩:=hh
 subst hd
 exact hK _ _ hk
theorem value_ {oi:Oper} {N:Option Tmp} {a:Act} {w w1:World} {v:Value} {K:Act→World→Prop} (hw:Region.wanted oi (yielded ops a.tmps)=true) (hN:oi.dst=N) (hrun:(execOp a.eval oi).run P w=.ok (.value v) w1)
  (h:K (a.put N v) w1):if Region.wanted oi (yielded ops a.tmps)=true then Oper.wp P oi a w K Q else K (a.put N undef) w:=by
 rw [if_pos hw]
 subst hN
 unfold Oper.wp
 rw [hrun]
 exact h
theorem skip_ {oi:Oper} {a:Act} {w w1:World} {K:Act→World→Prop} (hw:Region.wanted oi (yielded ops a.tmps)=true) (hN:oi.dst=none) (hrun:(execOp a.eval oi).run P w=.ok .skip w1)
  (h:K a w1):if Region.wanted oi (yielded ops a.tmps)=true then Oper.wp P oi a w K Q else K (a.put none undef) w:=by
 rw [if_pos hw]
 unfold Oper.wp
 rw [hrun]
 show K (a.put oi.dst undef) w1
 rw [hN]
 exact h
end
end Go.Proofs.YtdlhidjphaaklaaGreatW.PrintLast
end
section
namespace Go.Proofs.YtdlhidjphaaklaaGreatW.PrintWords
open Go.RowKit
namespace Kd
def tag {α:Type} (f:Nat→Nat) (d:Kd α):Kd (α × Nat) where
 sz:=d.sz
 E:=d.E
 K:=fun w x cs=>d.K w x.1 cs
 M:=fun w base ok x cs=>d.M w base (fun k=>ok k∧f k=x.2) x.1 cs
 K_len:=fun h=>d.K_len h
 K_one:=fun h=>d.K_one h
 K_below:=fun hb h=>d.K_below hb h
 K_of_M:=fun h=>d.K_of_M h
 M_mono:=fun hok h=>d.M_mono (fun k hk=>⟨hok k hk.1,hk.2⟩) h
 M_bound:=fun h=>d.M_mono (fun _ hk=>⟨⟨hk.1.1,hk.2⟩,hk.1.2⟩) (d.M_bound h)
 M_move:=fun hm h=>d.M_move (fun k hk=>hm k hk.1) h
 M_lower:=fun hb h=>d.M_lower hb h
def raw (sz:Nat):Kd (List Value) where
 sz:=sz
 E:=[]
 K:=fun _ x cs=>cs=x∧cs.length=sz∧∀ u ∈ cs,u.oneCell'=true
 M:=fun _ _ _ x cs=>cs=x∧cs.length=sz∧∀ u ∈ cs,u.oneCell'=true
 K_len:=fun h=>h.2.1
 K_one:=fun h=>h.2.2
 K_below:=fun _ h=>h
 K_of_M:=fun h=>h
 M_mono:=fun _ h=>h
 M_bound:=fun h=>h
 M_move:=fun _ h=>h
 M_lower:=fun _ h=>h
def S {α:Type} (d:Kd α) (e:Nat) (w:World) (base:Nat) (ok:Nat→Prop) (v:Value) (xs:List α):Prop:=∃ f,(tag f d).R e w base ok v xs.zipIdx
section
variable {α β:Type} {d:Kd α} {d':Kd β} {e e':Nat} {w w1 W:World} {base b:Nat} {ok ok' okv oku:Nat→Prop} {u v:Value} {xs:List α} {ys:List β}
theorem R_tight (hE:d.E=[]) (h:d.R e w base ok v xs):d.R e w base (fun k=>some k=v.ownBlock) v xs:=by
 obtain ⟨h0,inner,ho,hr⟩:=h
 refine ⟨fun k hk=>hk.symm,inner,ho,hr.imp_ (fun p c hp=>d.M_mono (fun k hk=>?_) (d.M_bound hp))⟩
 obtain ⟨_,_,_,q,hq,_⟩:=hk
 rw [hE] at hq
 cases hq
end
section
variable {α β:Type} {d:Kd α} {d':Kd β} {e e' g:Nat} {w w1 W:World} {base b:Nat} {ok ok' okv oku:Nat→Prop} {u v:Value} {xs:List α} {ys:List β}
end
section
variable {P:Program} {ops:Array Oper} {rest:List Oper} {o:Oper} {a:Act} {Q:Exit→Act→World→Prop} {Kc:Act→World→Prop} {α:Type}
end
def gap {α:Type} (f:Nat→Nat) (d:Kd α) (i:Nat) (c:List Value):Kd (α × Nat) where
 sz:=d.sz
 E:=d.E
 K:=fun w x cs=>(x.2=i→cs=c∧cs.length=d.sz∧∀ u ∈ cs,u.oneCell'=true)∧(x.2 ≠ i→d.K w x.1 cs)
 M:=fun w base ok x cs=>(x.2=i→cs=c∧cs.length=d.sz∧∀ u ∈ cs,u.oneCell'=true)∧(x.2 ≠ i→d.M w base (fun k=>ok k∧f k=x.2) x.1 cs)
 K_len:=fun {w x cs} h=>by
  by_cases hx:x.2=i
  ·exact (h.1 hx).2.1
  ·exact d.K_len (h.2 hx)
 K_one:=fun {w x cs} h=>by
  by_cases hx:x.2=i
  ·exact (h.1 hx).2.2
  ·exact d.K_one (h.2 hx)
 K_below:=fun hb h=>⟨h.1,fun hx=>d.K_below hb (h.2 hx)⟩
 K_of_M:=fun h=>⟨h.1,fun hx=>d.K_of_M (h.2 hx)⟩
 M_mono:=fun hok h=>⟨h.1,fun hx=>d.M_mono (fun k hk=>⟨hok k hk.1,hk.2⟩) (h.2 hx)⟩
 M_bound:=fun h=>⟨h.1,fun hx=>d.M_mono (fun _ hk=>⟨⟨hk.1.1,hk.2⟩,hk.1.2⟩) (d.M_bound (h.2 hx))⟩
 M_move:=fun hm h=>⟨h.1,fun hx=>d.M_move (fun k hk=>hm k hk.1) (h.2 hx)⟩
 M_lower:=fun hb h=>⟨h.1,fun hx=>d.M_lower hb (h.2 hx)⟩
def H {α:Type} (d:Kd α) (e:Nat) (w:World) (base:Nat) (ok:Nat→Prop) (v:Value) (xs:List α) (i:Int) (oki:Nat→Prop) (c:List Value):Prop :=
 (∀ k,oki k→ok k)∧∃ f,(gap f d i.toNat c).R e w base (fun k=>ok k∧¬ oki k) v xs.zipIdx
section
variable {α β:Type} {d:Kd α} {e e' g n cap:Nat} {w w1 W:World} {base:Nat} {ok ok' oki okp:Nat→Prop} {u v:Value} {xs:List α} {i:Int} {c:List Value}
end
section
variable {P:Program} {ops:Array Oper} {rest:List Oper} {o:Oper} {a:Act} {Q:Exit→Act→World→Prop} {α:Type}
end
end Kd
end Go.Proofs.YtdlhidjphaaklaaGreatW.PrintWords
end
section
namespace Go.Proofs.YtdlhidjphaaklaaGreatW.PrintWords
open Go.RowKit
namespace Kd
theorem reps_one {α:Type} {R:α→List Value→Prop} {size:Nat} {ps:List α} {cs:List Value} (h:Reps R size ps cs) (hs0:0<size) (hR:∀ p c,R p c→∀ u ∈ c,u.oneCell'=true):∀ u ∈ cs,u.oneCell'=true:=by
 intro u hu
 obtain ⟨q,hq,rfl⟩:=List.mem_iff_getElem.1 hu
 have hql:q / size<ps.length:=by
  rw [Nat.div_lt_iff_lt_mul hs0,← h.1]
  exact hq
 refine hR _ _ (h.2 (q / size) _ (List.getElem?_eq_getElem hql)) _ ?_
 rw [List.mem_iff_getElem?]
 refine ⟨q % size,?_⟩
 rw [List.getElem?_take,if_pos (Nat.mod_lt _ hs0),List.getElem?_drop,Nat.mul_comm,Nat.div_add_mod,List.getElem?_eq_getElem hq]
def arr {α:Type} (n:Nat) (d:Kd α) (hs:0<d.sz):Kd (List α) where
 sz:=n*d.sz
 E:=d.E
 K:=fun w xs cs=>xs.length=n∧Reps (d.K w) d.sz xs cs
 M:=fun w base ok xs cs=>xs.length=n∧Reps (d.M w base ok) d.sz xs cs
 K_len:=fun h=>by rw [← h.1]; exact h.2.1
 K_one:=fun h=>reps_one h.2 hs (fun _ _ hk=>d.K_one hk)
 K_below:=fun hb h=>⟨h.1,h.2.imp_ (fun _ _ hk=>d.K_below hb hk)⟩
 K_of_M:=fun h=>⟨h.1,h.2.imp_ (fun _ _ hk=>d.K_of_M hk)⟩
 M_mono:=fun hok h=>⟨h.1,h.2.imp_ (fun _ _ hk=>d.M_mono hok hk)⟩
 M_bound:=fun h=>⟨h.1,h.2.imp_ (fun _ _ hk=>d.M_bound hk)⟩
 M_move:=fun hm h=>⟨h.1,h.2.imp_ (fun _ _ hk=>d.M_move hm hk)⟩
 M_lower:=fun hb h=>⟨h.1,h.2.imp_ (fun _ _ hk=>d.M_lower hb hk)⟩
section
variable {α:Type} {n:Nat} {d:Kd α} {hs:0<d.sz} {w:World} {base:Nat} {ok:Nat→Prop} {xs:List α} {cs:List Value}
end
section
variable {α:Type} {n:Nat} {enc:α→Value} {h1:∀ x,(enc x).oneCell'=true} {hs:0<(scalar enc h1).sz} {w:World} {base:Nat} {ok:Nat→Prop} {xs:List α} {cs:List Value}
end
end Kd
end Go.Proofs.YtdlhidjphaaklaaGreatW.PrintWords
end
section
namespace Go.Proofs.YtdlhidjphaaklaaGreatW.PrintWords
open Go.RowKit
namespace Kd
structure Heap {α:Type} (d:Kd α):Prop where
 K:∀ {w w1:World} {x:α} {cs:List Value},(∀ k,k<w.heap.size→w1.heap[k]?=w.heap[k]?)→d.K w x cs→d.K w1 x cs
theorem cell_heap {w w1:World} (hb:∀ k,k<w.heap.size→w1.heap[k]?=w.heap[k]?) {a:Addr} {v:Value} (h:w.cell? a=some v):w1.cell? a=some v:=by
 have:=hb a.block (World.block_lt_of_cell? w a h)
 simpa [World.cell?,this] using h
theorem Heap.C {α:Type} {d:Kd α} (hd:Heap d) {w w1:World} {A:Option Addr} {n:Nat} {xs:List α} (hb:∀ k,k<w.heap.size→w1.heap[k]?=w.heap[k]?) (h:d.C w A n xs):d.C w1 A n xs :=
 ⟨h.1,h.2.1,fun hn=>by
  obtain ⟨ad,e,hc⟩:=h.2.2 hn
  refine ⟨ad,e,fun j p hj=>?_⟩
  obtain ⟨c,hs,hr,hcell⟩:=hc j p hj
  exact ⟨c,hs,hd.K hb hr,fun i u hu=>cell_heap hb (hcell i u hu)⟩⟩
section
variable {α:Type} {d:Kd α} {e base g n c:Nat} {ok:Nat→Prop} {w w0 W:World} {A:Option Addr} {xs:List α}
end
end Kd
end Go.Proofs.YtdlhidjphaaklaaGreatW.PrintWords
end
section
namespace Go.Proofs.YtdlhidjphaaklaaGreatW.PrintWords
open Go.RowKit
def Kept (w W:World) (S:Nat→Prop):Prop:=w.heap.size≤W.heap.size∧∀ i,i<w.heap.size→¬ S i→W.heap[i]?=w.heap[i]?
section
variable {w W W2:World} {S S2 S':Nat→Prop}
theorem Kept.refl (w:World) (S:Nat→Prop):Kept w w S:=⟨Nat.le_refl _,fun _ _ _=>rfl⟩
theorem Kept.of_below (h:Below w.heap.size w W) (S:Nat→Prop):Kept w W S:=⟨h.size,fun i hi _=>h.block i hi⟩
theorem Kept.then_ (h:Kept w W S) (k:Kept W W2 S2) (hs:∀ k,S2 k→S k ∨ w.heap.size≤k):Kept w W2 S :=
 ⟨Nat.le_trans h.1 k.1,fun i hi hn=>(k.2 i (Nat.lt_of_lt_of_le hi h.1) (fun h2=>(hs i h2).elim hn (fun h3=>by omega))).trans (h.2 i hi hn)⟩
theorem Kept.of_grown {row:Option Nat} (hg:W.grownBy W2 row) (h:Kept w W S) (hr:∀ k,row=some k→S k ∨ w.heap.size≤k):Kept w W2 S :=
 h.then_ (S2:=fun k=>row=some k) ⟨hg.size,fun i hi hn=>hg.block i hi (fun he=>hn he.symm)⟩ hr
theorem Kept.below (h:Kept w W S) (hb:Below W.heap.size W W2):Kept w W2 S:=h.then_ (Kept.of_below hb (fun _=>False)) (fun _ hk=>hk.elim)
theorem Kept.alloc (h:Kept w W S) (o:Obj):Kept w (W.alloc o) S:=h.below (below_alloc (Below.refl _ _) o)
theorem Kept.drew (h:Kept w W S):Kept w W.drew S:=h
theorem Kept.drewN (h:Kept w W S) (m:Nat):Kept w (W.drewN m) S:=h
theorem Kept.setCell (h:Kept w W S) {p:Addr} (hp:S p.block ∨ w.heap.size≤p.block) (u:Value):Kept w (W.setCell p u) S :=
 h.then_ (S2:=fun k=>k=p.block) ⟨by simp [World.setCell],fun i _ hn=>Below.heap_setCell W p u i hn⟩ (fun k hk=>by rw [hk]; exact hp)
theorem Kept.keep {g:Nat} (h:KeepBut w W g none) (k:Kept W W2 S2) (hs:∀ k,S2 k→w.heap.size≤k):KeepBut w W2 g none :=
 ⟨Nat.le_trans h.1 k.1,fun i hi hg hr=>(k.2 i (Nat.lt_of_lt_of_le hi h.1) (fun h2=>by have:=hs i h2; omega)).trans (h.2 i hi hg hr)⟩
theorem blk_kept {g:Nat} {o:Obj} (hb:W.heap[g]?=some o) (hk:Kept W W2 S) (hne:¬ S g):W2.heap[g]?=some o:=(hk.2 g (blk_lt hb) hne).trans hb
end
namespace Kd
section
variable {α:Type} {d:Kd α} {e base n c:Nat} {ok oki S S2:Nat→Prop} {w w0 W W1 W2:World} {v:Value} {A:Option Addr} {xs:List α} {i:Int} {cs:List Value}
theorem R_kept (h:d.R e W base ok v xs) (hk:Kept W W2 S) (hne:∀ k,ok k→¬ S k):d.R e W2 base ok v xs:=R_step h (fun k ho hlt=>hk.2 k hlt (hne k ho))
end
end Kd
end Go.Proofs.YtdlhidjphaaklaaGreatW.PrintWords
end
section
namespace Go.Proofs.YtdlhidjphaaklaaGreatW.PrintWords
open Go.RowKit
def Foot (P:World→Prop) (W:World) (ok:Nat→Prop):Prop:=∀ W':World,(∀ k,ok k→k<W.heap.size→W'.heap[k]?=W.heap[k]?)→P W'
theorem heap_lt {W W1:World} {k:Nat} (h:W1.heap[k]?=W.heap[k]?) (hlt:k<W.heap.size):k<W1.heap.size:=by
 rw [Array.getElem?_eq_getElem hlt] at h
 exact (Array.getElem?_eq_some_iff.1 h).1
namespace Foot
variable {P Q:World→Prop} {W W1:World} {ok ok':Nat→Prop}
theorem now (h:Foot P W ok):P W:=h W (fun _ _ _=>rfl)
theorem bound (h:Foot P W ok):Foot P W (fun k=>ok k∧k<W.heap.size):=fun W' hW=>h W' (fun k hk hlt=>hW k ⟨hk,hlt⟩ hlt)
theorem step (h:Foot P W ok) (hm:∀ k,ok k→k<W.heap.size→W1.heap[k]?=W.heap[k]?):Foot P W1 ok:=fun W' hW=>h W' (fun k hk hlt=>(hW k hk (heap_lt (hm k hk hlt) hlt)).trans (hm k hk hlt))
theorem old (h:Foot P W ok) (hb:Below W.heap.size W W1):Foot P W1 (fun k=>ok k∧k<W.heap.size):=(h.bound).step (fun k _ hlt=>hb.block k hlt)
end Foot
namespace Kd
def F {α:Type} (d:Kd α) (W:World) (ok:Nat→Prop) (A:Option Addr) (n:Nat) (xs:List α):Prop:=Foot (fun W=>d.C W A n xs) W ok
def FK {α:Type} (d:Kd α) (W:World) (ok:Nat→Prop) (x:α) (c:List Value):Prop:=Foot (fun W=>d.K W x c) W ok
section
variable {α β:Type} {d:Kd α} {e base n n' cc g N:Nat} {ok ok' okp S:Nat→Prop} {w w0 w1 W W1:World} {A A':Option Addr} {u v v1:Value} {xs:List α} {xs':List β} {d':Kd β} {x:α} {c:List Value}
end
end Kd
end Go.Proofs.YtdlhidjphaaklaaGreatW.PrintWords
end
section
namespace Go.Proofs.YtdlhidjphaaklaaGreatW.PrintWords
open Go.RowKit
namespace Kd
section
variable {α:Type} {d:Kd α} {e base n cc g:Nat} {ok ok' okp S:Nat→Prop} {w w1 W W1:World} {A:Option Addr} {u v v1:Value} {xs:List α} {x:α} {c:List Value}
def N {α:Type} (d:Kd α) (e:Nat) (w:World) (base:Nat) (ok:Nat→Prop) (v:Value) (xs:List α):Prop :=
 (∀ k,v.ownBlock=some k→ok k)∧∃ rows:List (List Value),rows.length=xs.length∧(raw d.sz).R e w base (fun k=>some k=v.ownBlock) v rows∧∀ (j:Nat) (x:α) (c:List Value),xs[j]?=some x→rows[j]?=some c→FK d w (fun k=>ok k∧some k ≠ v.ownBlock) x c
end
end Kd
end Go.Proofs.YtdlhidjphaaklaaGreatW.PrintWords
end
section
namespace Go.Proofs.YtdlhidjphaaklaaGreatW.PrintWords
open Go.RowKit
section
variable {P:Program} {d:Nat} {xs ys:Array Value} {f:Field} {fs:List Field} {a b:Value} {r s:Bool} {w:World}
theorem eqf_last (hn:(f.name == "_")=false) (ha:(part f.type xs f.offset).run P w=.ok a w) (hb:(part f.type ys f.offset).run P w=.ok b w) (he:(Op.equalIn d f.type a b).run P w=.ok r w):(Op.eqFields d xs ys [f]).run P w=.ok r w:=by
 have hn':f.name ≠ "_":=by simpa using hn
 simp only [Op.eqFields,if_pos hn',Sem.run_bind,ha,hb,he,Result.andThen_ok]
 cases r<;>simp
theorem eqf_cons (hn:(f.name == "_")=false) (ha:(part f.type xs f.offset).run P w=.ok a w) (hb:(part f.type ys f.offset).run P w=.ok b w) (he:(Op.equalIn d f.type a b).run P w=.ok r w) (hr:(Op.eqFields d xs ys fs).run P w=.ok s w):(Op.eqFields d xs ys (f::fs)).run P w=.ok (r && s) w:=by
 have hn':f.name ≠ "_":=by simpa using hn
 rw [Op.eqFields]
 simp only [if_pos hn',Sem.run_bind,ha,hb,he,Result.andThen_ok]
 cases r
 ·simp
 ·simpa using hr
theorem eqA_of {t:TypeId} {fs:Array Field} (hu:P.underlying t=some (.struct fs)) (hp:P.stoodInHeld t=false) (h:(Op.eqFields d xs ys fs.toList).run P w=.ok r w):(Op.equalIn (d+1) t (.agg xs) (.agg ys)).run P w=.ok r w:=by
 have hf:P.fieldsOf t=fs:=by simp [Program.fieldsOf,hu]
 rw [run_equalIn_struct (P:=P) w d t xs ys (by rw [hf]; exact hu) hp,hf]
 exact h
end
end Go.Proofs.YtdlhidjphaaklaaGreatW.PrintWords
end
section
namespace Go.Proofs.YtdlhidjphaaklaaGreatW.PrintWords
theorem Reps.one {α:Type} {R:α→List Value→Prop} {ps:List α} {cs:List Value} {p:α} {v:Value} (hp:R p [v]) (h:Reps R 1 ps cs):Reps R 1 (p::ps) (v::cs):=by
 refine ⟨by simp [h.1],fun j q hq=>?_⟩
 cases j with
 |zero =>
  simp only [List.getElem?_cons_zero,Option.some.injEq] at hq
  subst hq
  simpa using hp
 |succ j =>
  simp only [List.getElem?_cons_succ] at hq
  have h1:=h.2 j q hq
  simpa [Nat.mul_one] using h1
theorem Reps.front {α:Type} {R:α→List Value→Prop} {size:Nat} {ps:List α} {cs c all:List Value} {p:α} (hp:R p c) (hc:c.length=size) (h:Reps R size ps cs) (ha:c ++ cs=all):Reps R size (p::ps) all:=by
 subst ha
 refine ⟨by rw [List.length_append,hc,h.1,List.length_cons,Nat.succ_mul,Nat.add_comm],fun j q hq=>?_⟩
 cases j with
 |zero =>
  simp only [List.getElem?_cons_zero,Option.some.injEq] at hq
  subst hq
  rw [Nat.zero_mul,List.drop_zero,List.take_append_of_le_length (by omega),List.take_of_length_le (by omega)]
  exact hp
 |succ j =>
  simp only [List.getElem?_cons_succ] at hq
  have h1:=h.2 j q hq
  rw [Nat.succ_mul,List.drop_append,List.drop_of_length_le (by rw [hc]; exact Nat.le_add_left _ _),List.nil_append,hc,Nat.add_sub_cancel]
  exact h1
theorem Reps.c2 {α:Type} {R:α→List Value→Prop} {ps:List α} {cs:List Value} {p:α} {va vb:Value} (hp:R p [va,vb]) (h:Reps R 2 ps cs):Reps R 2 (p::ps) (va::vb::cs):=Reps.front hp rfl h rfl
theorem Reps.c3 {α:Type} {R:α→List Value→Prop} {ps:List α} {cs:List Value} {p:α} {va vb vc:Value} (hp:R p [va,vb,vc]) (h:Reps R 3 ps cs):Reps R 3 (p::ps) (va::vb::vc::cs):=Reps.front hp rfl h rfl
theorem Reps.c4 {α:Type} {R:α→List Value→Prop} {ps:List α} {cs:List Value} {p:α} {va vb vc vd:Value} (hp:R p [va,vb,vc,vd]) (h:Reps R 4 ps cs):Reps R 4 (p::ps) (va::vb::vc::vd::cs):=Reps.front hp rfl h rfl
theorem Reps.c5 {α:Type} {R:α→List Value→Prop} {ps:List α} {cs:List Value} {p:α} {va vb vc vd ve:Value} (hp:R p [va,vb,vc,vd,ve]) (h:Reps R 5 ps cs):Reps R 5 (p::ps) (va::vb::vc::vd::ve::cs):=Reps.front hp rfl h rfl
theorem Reps.c6 {α:Type} {R:α→List Value→Prop} {ps:List α} {cs:List Value} {p:α} {va vb vc vd ve vf:Value} (hp:R p [va,vb,vc,vd,ve,vf]) (h:Reps R 6 ps cs):Reps R 6 (p::ps) (va::vb::vc::vd::ve::vf::cs):=Reps.front hp rfl h rfl
theorem Reps.c7 {α:Type} {R:α→List Value→Prop} {ps:List α} {cs:List Value} {p:α} {va vb vc vd ve vf vg:Value} (hp:R p [va,vb,vc,vd,ve,vf,vg]) (h:Reps R 7 ps cs):Reps R 7 (p::ps) (va::vb::vc::vd::ve::vf::vg::cs):=Reps.front hp rfl h rfl
theorem Reps.c8 {α:Type} {R:α→List Value→Prop} {ps:List α} {cs:List Value} {p:α} {va vb vc vd ve vf vg vh:Value} (hp:R p [va,vb,vc,vd,ve,vf,vg,vh]) (h:Reps R 8 ps cs):Reps R 8 (p::ps) (va::vb::vc::vd::ve::vf::vg::vh::cs):=Reps.front hp rfl h rfl
theorem Reps.c9 {α:Type} {R:α→List Value→Prop} {ps:List α} {cs:List Value} {p:α} {va vb vc vd ve vf vg vh vi:Value} (hp:R p [va,vb,vc,vd,ve,vf,vg,vh,vi]) (h:Reps R 9 ps cs):Reps R 9 (p::ps) (va::vb::vc::vd::ve::vf::vg::vh::vi::cs):=Reps.front hp rfl h rfl
end Go.Proofs.YtdlhidjphaaklaaGreatW.PrintWords
end
section
namespace Go.Proofs.YtdlhidjphaaklaaGreatW.PrintLast
def up (b:Nat→Bool) (i:Nat):Nat→Bool:=fun j=>if j=i then true else b j
section
variable {P:Program} {ops:Array Oper} {Q:Exit→Act→World→Prop} {md:Region.Mode} {T:Bool × List (List Nat × List Nat)} {B:List Nat} {O:List Nat} {b:Nat→Bool} {i j n:Nat}
end
end Go.Proofs.YtdlhidjphaaklaaGreatW.PrintLast
end
section
namespace Go.Proofs.YtdlhidjphaaklaaGreatW.PrintWords
open Go.RowKit
section
variable {P:Program} {ops:Array Oper} {rest:List Oper} {o:Oper} {a:Act} {Q:Exit→Act→World→Prop} {W:World}
theorem gate_guard (hw:Region.wanted o (yielded ops a.tmps)=true) (h:wpList P ops Q ({ o with guard:=none }::rest) a W):wpList P ops Q (o::rest) a W:=by
 have h1:Region.wanted { o with guard:=none } (yielded ops a.tmps)=true:=rfl
 unfold wpList at h ⊢
 rw [if_pos h1] at h
 rw [if_pos hw]
 exact h
end
end Go.Proofs.YtdlhidjphaaklaaGreatW.PrintWords
end
section
namespace Go.Proofs.YtdlhidjphaaklaaGreatW.PrintMore
open Go.RowKit Go.Proofs.YtdlhidjphaaklaaGreatW.PrintWords
namespace Kd
open Go.Proofs.YtdlhidjphaaklaaGreatW.PrintWords.Kd
end Kd
namespace Kd
open Go.Proofs.YtdlhidjphaaklaaGreatW.PrintWords.Kd
section
variable {α:Type} {d:Kd α} {e base g N:Nat} {ok:Nat→Prop} {W w1:World} {u v:Value} {xs:List α}
end
end Kd
theorem max2_int (k k':IntKind) (x y:Int):Builtin.max2 (.int k x) (.int k' y)=pure (.int k (if x<y then y else x)):=by simp only [Builtin.max2,gt_iff_lt]
theorem min2_int (k k':IntKind) (x y:Int):Builtin.min2 (.int k x) (.int k' y)=pure (.int k (if y<x then y else x)):=by simp only [Builtin.min2]
theorem max_two (ats:Array TypeId) (ty:TypeId) (a b:Value):Builtin.max_ ats ty #[a,b]=(Builtin.max2 a b >>= fun s=>pure s):=by simp only [Builtin.max_,List.foldlM_cons,List.foldlM_nil]
theorem min_two (ats:Array TypeId) (ty:TypeId) (a b:Value):Builtin.min_ ats ty #[a,b]=(Builtin.min2 a b >>= fun s=>pure s):=by simp only [Builtin.min_,List.foldlM_cons,List.foldlM_nil]
theorem max_three (ats:Array TypeId) (ty:TypeId) (a b c:Value):Builtin.max_ ats ty #[a,b,c]=(Builtin.max2 a b >>= fun s=>Builtin.max2 s c >>= fun s=>pure s):=by simp only [Builtin.max_,List.foldlM_cons,List.foldlM_nil]
theorem min_three (ats:Array TypeId) (ty:TypeId) (a b c:Value):Builtin.min_ ats ty #[a,b,c]=(Builtin.min2 a b >>= fun s=>Builtin.min2 s c >>= fun s=>pure s):=by simp only [Builtin.min_,List.foldlM_cons,List.foldlM_nil]
theorem max_four (ats:Array TypeId) (ty:TypeId) (a b c d:Value):Builtin.max_ ats ty #[a,b,c,d]=(Builtin.max2 a b >>= fun s=>Builtin.max2 s c >>= fun s=>Builtin.max2 s d >>= fun s=>pure s):=by simp only [Builtin.max_,List.foldlM_cons,List.foldlM_nil]
theorem min_four (ats:Array TypeId) (ty:TypeId) (a b c d:Value):Builtin.min_ ats ty #[a,b,c,d]=(Builtin.min2 a b >>= fun s=>Builtin.min2 s c >>= fun s=>Builtin.min2 s d >>= fun s=>pure s):=by simp only [Builtin.min_,List.foldlM_cons,List.foldlM_nil]
end Go.Proofs.YtdlhidjphaaklaaGreatW.PrintMore
namespace Go.Proofs.YtdlhidjphaaklaaGreatW.PrintWords
open Go.RowKit
section
variable {P:Program} {ops:Array Oper} {rest:List Oper} {o:Oper} {a:Act} {Q:Exit→Act→World→Prop} {W:World}
theorem gate_callee {f:FuncId} {as_:Array Operand} {ts:Array TypeId} (_ho:o.op=.call { callee:=.value (.func f),args:=as_,argTypes:=ts }) (h:wpList P ops Q (o::rest) a W):wpList P ops Q (o::rest) a W:=h
theorem gate_builtin {b:Builtin} {xs:Array Operand} {ts:Array TypeId} (_ho:o.op=.call { callee:=.builtin b,args:=xs,argTypes:=ts }) (h:wpList P ops Q (o::rest) a W):wpList P ops Q (o::rest) a W:=h
end
def mx (a b:Int):Int:=if a<b then b else a
def mn (a b:Int):Int:=if b<a then b else a
namespace Kd
section
variable {α:Type} {d:Kd α} {e base:Nat} {ok:Nat→Prop} {W w1:World} {v:Value} {xs:List α}
end
section
variable {α:Type} {d:Kd α} {e base g n cap:Nat} {ok oki okp:Nat→Prop} {W:World} {xs:List α} {i:Int} {c:List Value}
end
section
variable {α:Type} {d:Kd α} {e base b b' g N:Nat} {ok ok1:Nat→Prop} {W W2 w1:World} {u v:Value} {xs ys:List α} {S:Nat→Prop}
theorem R_reok (hE:d.E=[]) (h:d.R e W base ok1 v xs) (hok:∀ k,v.ownBlock=some k→ok k):d.R e W base ok v xs:=R_mono (R_tight hE h) (fun k hk=>hok k hk.symm)
theorem own_raise {n size:Nat} {cs:List Value} (h:W.ownsRow b e size v n cs) (hb:∀ k,v.ownBlock=some k→b'≤k):W.ownsRow b' e size v n cs:=by
 obtain ⟨h1,h2⟩:=h
 refine ⟨h1,?_⟩
 rcases h2 with h2|⟨g,cap,cur,rfl,_,r⟩
 ·exact .inl h2
 ·exact .inr ⟨g,cap,cur,rfl,hb g (by simp [Value.ownBlock]),r⟩
theorem R_keptB (h:d.R e W base ok v xs) (hk:Kept W W2 S) (hne:∀ k,ok k→¬ S k):d.R e W2 base (fun k=>ok k∧(¬ S k∧k<W.heap.size)) v xs :=
 R_kept (R_mono (R_bound h) (fun k hk=>⟨hk.1,hne k hk.1,hk.2.2.1⟩)) hk (fun _ hk=>hk.2.1)
end
end Kd
end Go.Proofs.YtdlhidjphaaklaaGreatW.PrintWords
namespace Go.Proofs.YtdlhidjphaaklaaGreatW.PrintWords
open Go.RowKit
namespace Kd
def V {α:Type} (d:Kd α) (_e:Nat) (W:World) (_base:Nat) (ok:Nat→Prop) (v:Value) (xs:List α):Prop:=∃ A c,v=.slice A xs.length c∧xs.length≤c∧F d W ok A xs.length xs
section
variable {α β:Type} {d:Kd α} {e base base' n m c g N' lo hi:Nat} {ok ok' S:Nat→Prop} {w W w1:World} {A:Option Addr} {ad:Addr} {u v v1:Value} {xs:List α}
end
end Kd
end Go.Proofs.YtdlhidjphaaklaaGreatW.PrintWords
end
section
namespace Go.Proofs.YtdlhidjphaaklaaGreat.P
open Go.RowKit Go.Proofs.YtdlhidjphaaklaaGreatW.PrintWords Go.Proofs.YtdlhidjphaaklaaGreatW.PrintLast Go.Proofs.YtdlhidjphaaklaaGreatW.PrintMore
attribute [local go_sem] max2_int min2_int max_two min_two max_three min_three max_four min_four
def bs_ (n k:Nat):Array Bool:=((List.range n).map fun i=>k.testBit i).toArray
section
variable {P:Program} {ops:Array Oper} {Q:Exit→Act→World→Prop}
end
def errW:Option Int→Value
 |none=>.nilIface
 |some c=>.iface 0 (.int .i64 c)
theorem errW_none:errW none=.nilIface:=rfl
theorem errW_some (c:Int):errW (some c)=.iface 0 (.int .i64 c):=rfl
theorem info9:(Tryz.prog.info? 9).map (fun i=>(i.zero,i.size,i.bytes))=some (some (.string ⟨#[]⟩),1,16):=by kernel_rfl
theorem info32:(Tryz.prog.info? 32).map (fun i=>(i.zero,i.size,i.bytes))=some (some (.agg #[(.int .i64 0),(.int .i64 0),(.string ⟨#[]⟩),(.slice none 0 0),(.slice none 0 0)]),5,80):=by kernel_rfl
theorem info61:(Tryz.prog.info? 61).map (fun i=>(i.zero,i.size,i.bytes))=some (some (.agg #[(.string ⟨#[]⟩),(.int .i64 0),(.int .i64 0)]),3,32):=by kernel_rfl
theorem info124:(Tryz.prog.info? 124).map (fun i=>(i.zero,i.size,i.bytes))=some (some (.agg #[(.string ⟨#[]⟩),(.string ⟨#[]⟩)]),2,32):=by kernel_rfl
structure S25 where
 f0:Int
 f1:Int
 f2:ByteArray
 f3:(List ByteArray)
 f4:(List S25)
def F25 (d:Kd S25):Kd S25:=Kd.iso (Kd.pair (Kd.int .i64) (Kd.pair (Kd.int .i64) (Kd.pair Kd.string (Kd.pair (Kd.slice 9 Kd.string) (Kd.slice 25 d))))) (fun x:S25=>(x.f0,x.f1,x.f2,x.f3,x.f4))
theorem mono25:Kd.Mono F25:=Kd.mono_iso _ (Kd.mono_pair (Kd.mono_const _) (Kd.mono_pair (Kd.mono_const _) (Kd.mono_pair (Kd.mono_const _) (Kd.mono_pair (Kd.mono_const _) (Kd.mono_slice 25 Kd.mono_id)))))
theorem sub25:Kd.Sub F25 [9,25]:=Kd.sub_iso _ (Kd.sub_pair (Kd.sub_const _ (by decide)) (Kd.sub_pair (Kd.sub_const _ (by decide)) (Kd.sub_pair (Kd.sub_const _ (by decide)) (Kd.sub_pair (Kd.sub_const _ (by decide)) (Kd.sub_slice 25 (by decide) Kd.sub_id)))))
theorem sz25:∀ n,(Kd.upto F25 5 [9,25] n).sz=5:=Kd.upto_sz (fun _=>rfl)
def k25:Kd S25:=Kd.fix F25 5 [9,25] sz25 (Kd.upto_E sub25)
theorem k25_mkM (w:World) (base:Nat) (ok:Nat→Prop) (x:S25) {v3:Value} (g3:Kd.string.R 9 w base ok v3 x.f3) {v4:Value} (g4:k25.R 25 w base ok v4 x.f4):k25.M w base ok x [.int .i64 x.f0,.int .i64 x.f1,.string x.f2,v3,v4]:=by
 obtain ⟨n4,q4⟩:=Kd.fix_R_back mono25 g4
 have r4:=Kd.upto_R_le mono25 sz25 (show n4≤n4 by omega) q4
 exact ⟨n4+1,⟨[.int .i64 x.f0],[.int .i64 x.f1,.string x.f2,v3,v4],rfl,rfl,⟨[.int .i64 x.f1],[.string x.f2,v3,v4],rfl,rfl,⟨[.string x.f2],[v3,v4],rfl,rfl,⟨[v3],[v4],rfl,⟨v3,rfl,g3⟩,⟨v4,rfl,r4⟩⟩⟩⟩⟩⟩
structure S32 where
 f0:Int
 f1:Int
 f2:ByteArray
 f3:(List ByteArray)
 f4:(List S32)
def z32:S32:=⟨(0:Int),(0:Int),(⟨#[]⟩:ByteArray),([]:List ByteArray),([]:List S32)⟩
def F32 (d:Kd S32):Kd S32:=Kd.iso (Kd.pair (Kd.int .i64) (Kd.pair (Kd.int .i64) (Kd.pair Kd.string (Kd.pair (Kd.slice 9 Kd.string) (Kd.slice 32 d))))) (fun x:S32=>(x.f0,x.f1,x.f2,x.f3,x.f4))
theorem mono32:Kd.Mono F32:=Kd.mono_iso _ (Kd.mono_pair (Kd.mono_const _) (Kd.mono_pair (Kd.mono_const _) (Kd.mono_pair (Kd.mono_const _) (Kd.mono_pair (Kd.mono_const _) (Kd.mono_slice 32 Kd.mono_id)))))
theorem sub32:Kd.Sub F32 [9,32]:=Kd.sub_iso _ (Kd.sub_pair (Kd.sub_const _ (by decide)) (Kd.sub_pair (Kd.sub_const _ (by decide)) (Kd.sub_pair (Kd.sub_const _ (by decide)) (Kd.sub_pair (Kd.sub_const _ (by decide)) (Kd.sub_slice 32 (by decide) Kd.sub_id)))))
theorem sz32:∀ n,(Kd.upto F32 5 [9,32] n).sz=5:=Kd.upto_sz (fun _=>rfl)
def k32:Kd S32:=Kd.fix F32 5 [9,32] sz32 (Kd.upto_E sub32)
theorem k32_open {w:World} {x:S32} {cs:List Value} (h:k32.K w x cs):∃ A3 c3 A4 c4,cs=[.int .i64 x.f0,.int .i64 x.f1,.string x.f2,.slice A3 x.f3.length c3,.slice A4 x.f4.length c4]∧x.f3.length≤c3∧Kd.string.C w A3 x.f3.length x.f3∧x.f4.length≤c4∧k32.C w A4 x.f4.length x.f4:=by
 obtain ⟨n,h⟩:=h
 cases n with
 |zero=>exact h.elim
 |succ n =>
  obtain ⟨_,_,rfl,rfl,⟨_,_,rfl,rfl,⟨_,_,rfl,rfl,⟨_,_,rfl,⟨A3,c3,rfl,l3,g3⟩,⟨A4,c4,rfl,l4,g4⟩⟩⟩⟩⟩:=h
  exact ⟨A3,c3,A4,c4,rfl,l3,g3,l4,Kd.fix_C g4⟩
theorem k32_openM {w:World} {base:Nat} {ok:Nat→Prop} {x:S32} {cs:List Value} (h:k32.M w base ok x cs):∃ v3 v4,cs=[.int .i64 x.f0,.int .i64 x.f1,.string x.f2,v3,v4]∧Kd.string.R 9 w base ok v3 x.f3∧k32.R 32 w base ok v4 x.f4:=by
 obtain ⟨n,h⟩:=h
 cases n with
 |zero=>exact h.elim
 |succ n =>
  obtain ⟨_,_,rfl,rfl,⟨_,_,rfl,rfl,⟨_,_,rfl,rfl,⟨_,_,rfl,⟨v3,rfl,g3⟩,⟨v4,rfl,g4⟩⟩⟩⟩⟩:=h
  exact ⟨v3,v4,rfl,g3,Kd.fix_R g4⟩
theorem k32_mk (w:World) (x:S32) {A3:Option Addr} {c3:Nat} (l3:x.f3.length≤c3) (g3:Kd.string.C w A3 x.f3.length x.f3) {A4:Option Addr} {c4:Nat} (l4:x.f4.length≤c4) (g4:k32.C w A4 x.f4.length x.f4):k32.K w x [.int .i64 x.f0,.int .i64 x.f1,.string x.f2,.slice A3 x.f3.length c3,.slice A4 x.f4.length c4]:=by
 obtain ⟨n4,q4⟩:=Kd.fix_C_back mono32 g4
 have r4:=Kd.upto_C_le mono32 sz32 (show n4≤n4 by omega) q4
 exact ⟨n4+1,⟨[.int .i64 x.f0],[.int .i64 x.f1,.string x.f2,.slice A3 x.f3.length c3,.slice A4 x.f4.length c4],rfl,rfl,⟨[.int .i64 x.f1],[.string x.f2,.slice A3 x.f3.length c3,.slice A4 x.f4.length c4],rfl,rfl,⟨[.string x.f2],[.slice A3 x.f3.length c3,.slice A4 x.f4.length c4],rfl,rfl,⟨[.slice A3 x.f3.length c3],[.slice A4 x.f4.length c4],rfl,⟨A3,c3,rfl,l3,g3⟩,⟨A4,c4,rfl,l4,r4⟩⟩⟩⟩⟩⟩
theorem k32_mkM (w:World) (base:Nat) (ok:Nat→Prop) (x:S32) {v3:Value} (g3:Kd.string.R 9 w base ok v3 x.f3) {v4:Value} (g4:k32.R 32 w base ok v4 x.f4):k32.M w base ok x [.int .i64 x.f0,.int .i64 x.f1,.string x.f2,v3,v4]:=by
 obtain ⟨n4,q4⟩:=Kd.fix_R_back mono32 g4
 have r4:=Kd.upto_R_le mono32 sz32 (show n4≤n4 by omega) q4
 exact ⟨n4+1,⟨[.int .i64 x.f0],[.int .i64 x.f1,.string x.f2,v3,v4],rfl,rfl,⟨[.int .i64 x.f1],[.string x.f2,v3,v4],rfl,rfl,⟨[.string x.f2],[v3,v4],rfl,rfl,⟨[v3],[v4],rfl,⟨v3,rfl,g3⟩,⟨v4,rfl,r4⟩⟩⟩⟩⟩⟩
def rd_T32 (xs:List S32) (i:Int):S32:=xs.getD i.toNat z32
theorem at_T32 {w:World} {A:Option Addr} {n:Nat} {xs:List S32} (h:Kd.C k32 w A n xs) (i:Int) (h0:0≤i) (h1:i<n):∃ ad A3 c3 A4 c4,A=some ad∧w.cell? (ad.add (i.toNat*5))=some (.int .i64 (rd_T32 xs i).f0)∧w.cell? ⟨(ad.add (i.toNat*5)).block,(ad.add (i.toNat*5)).off+1,none⟩=some (.int .i64 (rd_T32 xs i).f1)∧w.cell? ⟨(ad.add (i.toNat*5)).block,(ad.add (i.toNat*5)).off+2,none⟩=some (.string (rd_T32 xs i).f2)∧w.cell? ⟨(ad.add (i.toNat*5)).block,(ad.add (i.toNat*5)).off+3,none⟩=some (.slice A3 (rd_T32 xs i).f3.length c3)∧w.cell? ⟨(ad.add (i.toNat*5)).block,(ad.add (i.toNat*5)).off+4,none⟩=some (.slice A4 (rd_T32 xs i).f4.length c4)∧(rd_T32 xs i).f3.length≤c3∧Kd.string.C w A3 (rd_T32 xs i).f3.length (rd_T32 xs i).f3∧(rd_T32 xs i).f4.length≤c4∧k32.C w A4 (rd_T32 xs i).f4.length (rd_T32 xs i).f4:=by
 obtain ⟨ad,c,e,_,hK,hc0⟩:=Kd.C_get h z32 i h0 h1
 have hc:∀ j u,c[j]?=some u→w.cell? (ad.add (i.toNat*5+j))=some u:=hc0
 obtain ⟨A3,c3,A4,c4,rfl,l3,g3,l4,g4⟩:=k32_open hK
 exact ⟨ad,A3,c3,A4,c4,e,hc 0 _ rfl,by rw [← add_field _ _ 1 (by omega)]; exact hc 1 _ rfl,by rw [← add_field _ _ 2 (by omega)]; exact hc 2 _ rfl,by rw [← add_field _ _ 3 (by omega)]; exact hc 3 _ rfl,by rw [← add_field _ _ 4 (by omega)]; exact hc 4 _ rfl,l3,g3,l4,g4⟩
structure S61 where
 f0:ByteArray
 f1:Int
 f2:Int
def z61:S61:=⟨(⟨#[]⟩:ByteArray),(0:Int),(0:Int)⟩
def k61:Kd S61:=Kd.iso (Kd.pair Kd.string (Kd.pair (Kd.int .i64) (Kd.int .i64))) (fun x:S61=>(x.f0,x.f1,x.f2))
theorem k61_openM {w:World} {base:Nat} {ok:Nat→Prop} {x:S61} {cs:List Value} (h:k61.M w base ok x cs):cs=[.string x.f0,.int .i64 x.f1,.int .i64 x.f2]:=by
 obtain ⟨_,_,rfl,rfl,⟨_,_,rfl,rfl,rfl⟩⟩:=h
 exact rfl
theorem k61_mkM (w:World) (base:Nat) (ok:Nat→Prop) (x:S61):k61.M w base ok x [.string x.f0,.int .i64 x.f1,.int .i64 x.f2]:=⟨[.string x.f0],[.int .i64 x.f1,.int .i64 x.f2],rfl,rfl,⟨[.int .i64 x.f1],[.int .i64 x.f2],rfl,rfl,rfl⟩⟩
def rd_T61 (xs:List S61) (i:Int):S61:=xs.getD i.toNat z61
structure S113 where
 f0:ByteArray
 f1:Int
 f2:Int
def z113:S113:=⟨(⟨#[]⟩:ByteArray),(0:Int),(0:Int)⟩
def k113:Kd S113:=Kd.iso (Kd.pair Kd.string (Kd.pair (Kd.int .i64) (Kd.int .i64))) (fun x:S113=>(x.f0,x.f1,x.f2))
theorem k113_open {w:World} {x:S113} {cs:List Value} (h:k113.K w x cs):cs=[.string x.f0,.int .i64 x.f1,.int .i64 x.f2]:=by
 obtain ⟨_,_,rfl,rfl,⟨_,_,rfl,rfl,rfl⟩⟩:=h
 exact rfl
def rd_T113 (xs:List S113) (i:Int):S113:=xs.getD i.toNat z113
theorem at_T113 {w:World} {A:Option Addr} {n:Nat} {xs:List S113} (h:Kd.C k113 w A n xs) (i:Int) (h0:0≤i) (h1:i<n):∃ ad , A=some ad∧w.cell? (ad.add (i.toNat*3))=some (.string (rd_T113 xs i).f0)∧w.cell? ⟨(ad.add (i.toNat*3)).block,(ad.add (i.toNat*3)).off+1,none⟩=some (.int .i64 (rd_T113 xs i).f1)∧w.cell? ⟨(ad.add (i.toNat*3)).block,(ad.add (i.toNat*3)).off+2,none⟩=some (.int .i64 (rd_T113 xs i).f2):=by
 obtain ⟨ad,c,e,_,hK,hc0⟩:=Kd.C_get h z113 i h0 h1
 have hc:∀ j u,c[j]?=some u→w.cell? (ad.add (i.toNat*3+j))=some u:=hc0
 obtain rfl:=k113_open hK
 exact ⟨ad,e,hc 0 _ rfl,by rw [← add_field _ _ 1 (by omega)]; exact hc 1 _ rfl,by rw [← add_field _ _ 2 (by omega)]; exact hc 2 _ rfl⟩
structure S116 where
 f0:ByteArray
 f1:ByteArray
def z116:S116:=⟨(⟨#[]⟩:ByteArray),(⟨#[]⟩:ByteArray)⟩
def k116:Kd S116:=Kd.iso (Kd.pair Kd.string Kd.string) (fun x:S116=>(x.f0,x.f1))
theorem k116_open {w:World} {x:S116} {cs:List Value} (h:k116.K w x cs):cs=[.string x.f0,.string x.f1]:=by
 obtain ⟨_,_,rfl,rfl,rfl⟩:=h
 exact rfl
def rd_T116 (xs:List S116) (i:Int):S116:=xs.getD i.toNat z116
theorem at_T116 {w:World} {A:Option Addr} {n:Nat} {xs:List S116} (h:Kd.C k116 w A n xs) (i:Int) (h0:0≤i) (h1:i<n):∃ ad , A=some ad∧w.cell? (ad.add (i.toNat*2))=some (.string (rd_T116 xs i).f0)∧w.cell? ⟨(ad.add (i.toNat*2)).block,(ad.add (i.toNat*2)).off+1,none⟩=some (.string (rd_T116 xs i).f1):=by
 obtain ⟨ad,c,e,_,hK,hc0⟩:=Kd.C_get h z116 i h0 h1
 have hc:∀ j u,c[j]?=some u→w.cell? (ad.add (i.toNat*2+j))=some u:=hc0
 obtain rfl:=k116_open hK
 exact ⟨ad,e,hc 0 _ rfl,by rw [← add_field _ _ 1 (by omega)]; exact hc 1 _ rfl⟩
structure S124 where
 f0:ByteArray
 f1:ByteArray
def z124:S124:=⟨(⟨#[]⟩:ByteArray),(⟨#[]⟩:ByteArray)⟩
def k124:Kd S124:=Kd.iso (Kd.pair Kd.string Kd.string) (fun x:S124=>(x.f0,x.f1))
theorem k124_openM {w:World} {base:Nat} {ok:Nat→Prop} {x:S124} {cs:List Value} (h:k124.M w base ok x cs):cs=[.string x.f0,.string x.f1]:=by
 obtain ⟨_,_,rfl,rfl,rfl⟩:=h
 exact rfl
theorem k124_mkM (w:World) (base:Nat) (ok:Nat→Prop) (x:S124):k124.M w base ok x [.string x.f0,.string x.f1]:=⟨[.string x.f0],[.string x.f1],rfl,rfl,rfl⟩
def rd_T124 (xs:List S124) (i:Int):S124:=xs.getD i.toNat z124
structure S41 where
 f0:Int
 f1:Int
 f2:Int
 f3:Int
def k41:Kd S41:=Kd.iso (Kd.pair (Kd.int .i64) (Kd.pair (Kd.int .i64) (Kd.pair (Kd.int .i64) (Kd.int .i64)))) (fun x:S41=>(x.f0,x.f1,x.f2,x.f3))
theorem k41_open {w:World} {x:S41} {cs:List Value} (h:k41.K w x cs):cs=[.int .i64 x.f0,.int .i64 x.f1,.int .i64 x.f2,.int .i64 x.f3]:=by
 obtain ⟨_,_,rfl,rfl,⟨_,_,rfl,rfl,⟨_,_,rfl,rfl,rfl⟩⟩⟩:=h
 exact rfl
structure S44 where
 f0:ByteArray
 f1:ByteArray
 f2:Int
 f3:Int
 f4:(List S113)
 f5:S41
 f6:(List S116)
def k44:Kd S44:=Kd.iso (Kd.pair Kd.string (Kd.pair Kd.string (Kd.pair (Kd.int .i64) (Kd.pair (Kd.int .i64) (Kd.pair (Kd.slice 113 k113) (Kd.pair k41 (Kd.slice 116 k116))))))) (fun x:S44=>(x.f0,x.f1,x.f2,x.f3,x.f4,x.f5,x.f6))
theorem k44_open {w:World} {x:S44} {cs:List Value} (h:k44.K w x cs):∃ A4 c4 A9 c9,cs=[.string x.f0,.string x.f1,.int .i64 x.f2,.int .i64 x.f3,.slice A4 x.f4.length c4,.int .i64 x.f5.f0,.int .i64 x.f5.f1,.int .i64 x.f5.f2,.int .i64 x.f5.f3,.slice A9 x.f6.length c9]∧x.f4.length≤c4∧k113.C w A4 x.f4.length x.f4∧x.f6.length≤c9∧k116.C w A9 x.f6.length x.f6:=by
 obtain ⟨_,_,rfl,rfl,⟨_,_,rfl,rfl,⟨_,_,rfl,rfl,⟨_,_,rfl,rfl,⟨_,_,rfl,⟨A4,c4,rfl,l4,g4⟩,⟨_,_,rfl,s5,⟨A9,c9,rfl,l9,g9⟩⟩⟩⟩⟩⟩⟩:=h
 obtain rfl:=k41_open s5
 exact ⟨A4,c4,A9,c9,rfl,l4,g4,l9,g9⟩
end Go.Proofs.YtdlhidjphaaklaaGreat.P
end
section
namespace Go.Proofs.YtdlhidjphaaklaaGreat.M
open Go.RowKit Go.Proofs.YtdlhidjphaaklaaGreatW.PrintWords
theorem w64 {i:Int} (h0 : -9223372036854775808≤i) (h1:i≤9223372036854775807):wrap64 i=i:=by unfold wrap64; omega
theorem w32 {i:Int} (h0 : -2147483648≤i) (h1:i≤2147483647):wrap32 i=i:=by unfold wrap32; omega
theorem wsucc {i:Nat} (h:i≤140737488351232):wrap64 ((i:Int) + 1)=((i + 1:Nat):Int):=by
  rw [w64 (by omega) (by omega)]
  omega
theorem scan {g : Nat → Int → Option Bool} {n : Nat} {P : Nat → Bool} {e : Bool} (hend : ∀ k, g (k + 1) (n : Int) = some e)
    (hstep:∀ k (i:Nat),i<n→g (k + 1) (i:Int)=if P i=true then g k ((i + 1:Nat):Int) else some false) :
    ∀ (d i k:Nat),i + d=n→d<k→g k (i:Int)=some ((List.range' i d).all P && e):=by
  intro d
  induction d with
  | zero =>
    intro i k hi hk
    obtain ⟨k,rfl⟩:∃ m,k=m + 1:=⟨k - 1,by omega⟩
    obtain rfl:i=n:=by omega
    simp [hend]
  | succ d ih =>
    intro i k hi hk
    obtain ⟨k,rfl⟩:∃ m,k=m + 1:=⟨k - 1,by omega⟩
    rw [hstep k i (by omega),List.range'_succ,List.all_cons]
    by_cases h:P i=true
    · rw [if_pos h,ih (i + 1) k (by omega) (by omega),h,Bool.true_and]
    · rw [if_neg h]
      have:P i=false:=by simpa using h
      rw [this,Bool.false_and,Bool.false_and]
theorem scan0 {g : Nat → Int → Option Bool} {n : Nat} {P : Nat → Bool} {e : Bool} (hend : ∀ k, g (k + 1) (n : Int) = some e)
    (hstep:∀ k (i:Nat),i<n→g (k + 1) (i:Int)=if P i=true then g k ((i + 1:Nat):Int) else some false) (k:Nat) (hk:n<k) :
    g k 0=some ((List.range' 0 n).all P && e):=scan hend hstep n 0 k (by omega) hk
def textB (s:ByteArray) (i:Nat):Bool:=decide (32≤bt s i) && decide (bt s i≤126)
def textOk (s:ByteArray):Bool:=(List.range' 0 s.size).all (textB s) && decide ((s.size:Int)≤400)
def lowB (c:Int):Bool:=decide (97≤c) && decide (c≤122)
def upB (c:Int):Bool:=decide (65≤c) && decide (c≤90)
def digB (c:Int):Bool:=decide (48≤c) && decide (c≤57)
def nameB (s:ByteArray) (i:Nat):Bool:=lowB (bt s i) || (decide (i ≠ 0) && (digB (bt s i) || decide (bt s i=45)))
def inB (n a b:Int):Bool:=decide (a≤n) && decide (n≤b)
def nameOk (s:ByteArray):Bool:=(List.range' 0 s.size).all (nameB s) && inB s.size 1 20
def plainB (s:ByteArray) (i:Nat):Bool:=lowB (bt s i) || upB (bt s i) || (decide (i ≠ 0) && (digB (bt s i) || decide (bt s i=95) || decide (bt s i=46) || decide (bt s i=47) || decide (bt s i=45)))
def plainEnd (s:ByteArray):Bool:=inB s.size 1 60 && (decide (s.toList ≠ ([110,117,108,108]:List UInt8)) && decide (s.toList ≠ ([116,114,117,101]:List UInt8)) && decide (s.toList ≠ ([102,97,108,115,101]:List UInt8)))
def plainOk (s:ByteArray):Bool:=(List.range' 0 s.size).all (plainB s) && plainEnd s
def natDigs (n:Nat):List UInt8:=if n<10 then [UInt8.ofNat (48 + n)] else natDigs (n / 10) ++ [UInt8.ofNat (48 + n % 10)]
termination_by n
decreasing_by omega
def digits (n:Int):ByteArray:=⟨((if n<0 then [45] else []) ++ natDigs n.natAbs).toArray⟩
theorem natDigs_lt {n:Nat} (h:n<10):natDigs n=[UInt8.ofNat (48 + n)]:=by rw [natDigs,if_pos h]
theorem natDigs_ge {n:Nat} (h:¬ n<10):natDigs n=natDigs (n / 10) ++ [UInt8.ofNat (48 + n % 10)]:=by rw [natDigs,if_neg h]
theorem natDigs_len : ∀ (d n : Nat), 0 < d → n < 10 ^ d → (natDigs n).length ≤ d
  | 0,_,h,_=>by omega
  | d + 1,n,_,hn=>by
    by_cases h:n<10
    · rw [natDigs_lt h]; simp
    · rw [natDigs_ge h, List.length_append, List.length_singleton]
      have hd:0<d:=by
        rcases Nat.eq_zero_or_pos d with rfl | hd
        · exact absurd hn (by simpa using h)
        · exact hd
      have:=natDigs_len d (n / 10) hd (by rw [Nat.div_lt_iff_lt_mul (by omega)]; rw [Nat.pow_succ] at hn; exact hn)
      omega
theorem natDigs_len20 {n:Nat} (h:n≤9223372036854775808):(natDigs n).length≤19:=natDigs_len 19 n (by omega) (by omega)
theorem scanK {g : Nat → Int → Option Bool} {n K : Nat} {P : Nat → Bool} {e : Bool} (hend : ∀ k, K ≤ k → g (k + 1) (n : Int) = some e)
    (hstep:∀ k (i:Nat),K≤k→i<n→g (k + 1) (i:Int)=if P i=true then g k ((i + 1:Nat):Int) else some false) :
    ∀ (d i k:Nat),i + d=n→d + K<k→g k (i:Int)=some ((List.range' i d).all P && e):=by
  intro d
  induction d with
  | zero =>
    intro i k hi hk
    obtain ⟨k,rfl⟩:∃ m,k=m + 1:=⟨k - 1,by omega⟩
    obtain rfl:i=n:=by omega
    simp [hend k (by omega)]
  | succ d ih =>
    intro i k hi hk
    obtain ⟨k,rfl⟩:∃ m,k=m + 1:=⟨k - 1,by omega⟩
    rw [hstep k i (by omega) (by omega),List.range'_succ,List.all_cons]
    by_cases h:P i=true
    · rw [if_pos h,ih (i + 1) k (by omega) (by omega),h,Bool.true_and]
    · rw [if_neg h]
      have:P i=false:=by simpa using h
      rw [this,Bool.false_and,Bool.false_and]
theorem fill_loop {α β : Type} {g : Nat → List β → Int → Option (List β)} {xs : List α} {K : Nat} (conv : α → β) (hend : ∀ k acc, K ≤ k → g (k + 1) acc (xs.length : Int) = some acc)
    (hstep:∀ k (acc:List β) (i:Nat) (h:i<xs.length),K≤k→acc.length=xs.length→g (k + 1) acc (i:Int)=g k (acc.set i (conv xs[i])) ((i + 1:Nat):Int)) :
    ∀ (d i k:Nat) (acc:List β),i + d=xs.length→d + K<k→acc.length=xs.length→acc.take i=(xs.map conv).take i→g k acc (i:Int)=some (xs.map conv):=by
  intro d
  induction d with
  | zero =>
    intro i k acc hi hk hl ht
    obtain ⟨k,rfl⟩:∃ m,k=m + 1:=⟨k - 1,by omega⟩
    obtain rfl:i=xs.length:=by omega
    rw [hend k acc (by omega),← List.take_of_length_le (l:=acc) (i:=xs.length) (by omega),ht,List.take_of_length_le (by simp)]
  | succ d ih =>
    intro i k acc hi hk hl ht
    obtain ⟨k,rfl⟩:∃ m,k=m + 1:=⟨k - 1,by omega⟩
    have hx:i<xs.length:=by omega
    rw [hstep k acc i hx (by omega) hl]
    refine ih (i + 1) k _ (by omega) (by omega) (by simp [hl]) ?_
    have h1:i<(acc.set i (conv xs[i])).length:=by simp; omega
    have h2:i<(xs.map conv).length:=by simp; omega
    rw [List.take_succ_eq_append_getElem h1,List.take_succ_eq_append_getElem h2,List.getElem_set_self,List.getElem_map,List.take_set_of_le (by omega),ht]
theorem fill_all {α β : Type} {g : Nat → List β → Int → Option (List β)} {xs : List α} {K : Nat} (conv : α → β) (z : β) (hend : ∀ k acc, K ≤ k → g (k + 1) acc (xs.length : Int) = some acc)
    (hstep:∀ k (acc:List β) (i:Nat) (h:i<xs.length),K≤k→acc.length=xs.length→g (k + 1) acc (i:Int)=g k (acc.set i (conv xs[i])) ((i + 1:Nat):Int)) (k:Nat) (hk:xs.length + K<k) :
    g k (List.replicate xs.length z) 0=some (xs.map conv):=fill_loop conv hend hstep xs.length 0 k _ (by omega) hk (by simp) (by simp)
def szLeft (tot:Nat) (left:Int):Int:=if (tot:Int)≤left then left - tot else -1
theorem szLeft_neg {tot:Nat} {left:Int} (h:¬ szLeft tot left<0):(tot:Int)≤left:=by
  unfold szLeft at h
  split at h <;> omega
theorem sz_loop {α : Type} {g : Nat → Int → Int → Option Int} {xs : List α} {K : Nat} (tot : α → Nat) (hend : ∀ k left, K ≤ k → g (k + 1) left (xs.length : Int) = some left)
    (hstep:∀ k left (i:Nat) (h:i<xs.length),K≤k→0≤left→left≤1048576→g (k + 1) left (i:Int)=if szLeft (tot xs[i]) left<0 then some (-1) else g k (szLeft (tot xs[i]) left) ((i + 1:Nat):Int)) :
    ∀ (d i k:Nat) (left:Int),i + d=xs.length→d + K<k→0≤left→left≤1048576→g k left (i:Int)=some (szLeft ((xs.drop i).map tot).sum left):=by
  intro d
  induction d with
  | zero =>
    intro i k left hi hk h0 h1
    obtain ⟨k,rfl⟩:∃ m,k=m + 1:=⟨k - 1,by omega⟩
    obtain rfl:i=xs.length:=by omega
    rw [hend k left (by omega),List.drop_of_length_le (by omega)]
    simp [szLeft,h0]
  | succ d ih =>
    intro i k left hi hk h0 h1
    obtain ⟨k,rfl⟩:∃ m,k=m + 1:=⟨k - 1,by omega⟩
    have hx:i<xs.length:=by omega
    rw [hstep k left i hx (by omega) h0 h1,List.drop_eq_getElem_cons hx,List.map_cons,List.sum_cons]
    by_cases h:szLeft (tot xs[i]) left<0
    · rw [if_pos h]
      unfold szLeft at h ⊢
      split at h
      · omega
      · rw [if_neg (by omega)]
    · have hle := szLeft_neg h
      have e:szLeft (tot xs[i]) left=left - tot xs[i]:=if_pos hle
      rw [if_neg h,ih (i + 1) k _ (by omega) (by omega) (by omega) (by omega),e]
      unfold szLeft
      by_cases h2:((((xs.drop (i + 1)).map tot).sum:Nat):Int)≤left - tot xs[i]
      · rw [if_pos h2,if_pos (by omega)]; congr 1; omega
      · rw [if_neg h2,if_neg (by omega)]
theorem tlb {a b:ByteArray}:a.toList=b.toList ↔ a=b:=by
  rw [Lib.toList_data,Lib.toList_data]
  constructor
  · intro h
    apply ByteArray.ext
    exact Array.ext' h
  · rintro rfl; rfl
theorem mem_le_sum {α : Type} (tot : α → Nat) : ∀ (xs : List α) (x : α), x ∈ xs → tot x ≤ (xs.map tot).sum
  | y :: ys,x,h=>by
    rw [List.map_cons,List.sum_cons]
    rcases List.mem_cons.1 h with rfl | h
    · omega
    · have:=mem_le_sum tot ys x h; omega
end Go.Proofs.YtdlhidjphaaklaaGreat.M
end
section
namespace Go.Proofs.YtdlhidjphaaklaaGreat.V
open Go Go.RowKit
inductive Tag where
  | no | nil | own (r:Nat)
inductive AV where
  | val (v:Value)
  | row (elems:List (List AV)) (tag:Tag)
  | agg (cells:List AV)
  | tup (vs:List AV)
  | ptr (b off:Nat)
  | ref (cells:List AV)
  | any
def plainV : Value → Bool
  | .bool _ | .int _ _ | .string _=>true
  | .func (.func _) first captured=>first.isEmpty && captured.isEmpty
  | .pointer none=>true
  | _=>false
def flat : AV → Bool
  | .val _ | .row _ _ | .any=>true
  | _=>false
def At (F:Nat→Nat→Prop) (w:World) (g o:Nat) (us:List Value):Prop:=∀ j u,us[j]?=some u→w.cell? ⟨g,o + j,none⟩=some u∧F g (o + j)
inductive Rep (F : Nat → Nat → Prop) (gs : List (Option Nat)) (w : World) : AV → Value → Prop
  | val (v:Value) (h:plainV v=true):Rep F gs w (.val v) v
  | nil:Rep F gs w (.row [] .nil) (.slice none 0 0)
  | empty (A:Option Addr) (c:Nat) (tag:Tag) (ht:tag ≠ .nil):Rep F gs w (.row [] tag) (.slice A 0 c)
  | row (g o c sz : Nat) (elems : List (List AV)) (us : List Value) (tag : Tag) (ht : tag ≠ .nil) (h0 : elems ≠ []) (hsz : ∀ e ∈ elems, e.length = sz) (hl : us.length = elems.flatten.length) (hn : elems.length ≤ c) (hm : elems.length ≤ 9223372036854775807) (ha : At F w g o us) (hf : ∀ x ∈ elems.flatten, flat x = true)
      (hr:∀ (j:Nat) (x:AV) (u:Value),elems.flatten[j]?=some x→us[j]?=some u→Rep F gs w x u):Rep F gs w (.row elems tag) (.slice (some ⟨g,o,none⟩) elems.length c)
  | agg (cells:List AV) (us:List Value) (hl:us.length=cells.length) (hf:∀ x ∈ cells,flat x=true) (hr:∀ (j:Nat) (x:AV) (u:Value),cells[j]?=some x→us[j]?=some u→Rep F gs w x u):Rep F gs w (.agg cells) (.agg us.toArray)
  | tup (vs:List AV) (us:List Value) (hl:us.length=vs.length) (hr:∀ (j:Nat) (x:AV) (u:Value),vs[j]?=some x→us[j]?=some u→Rep F gs w x u):Rep F gs w (.tup vs) (.tuple us.toArray)
  | ptr (b off g:Nat) (h:gs[b]?=some (some g)):Rep F gs w (.ptr b off) (.pointer (some ⟨g,off,none⟩))
  | ref (g o : Nat) (cells : List AV) (us : List Value) (hl : us.length = cells.length) (ha : At F w g o us) (hf : ∀ x ∈ cells, flat x = true)
      (hr:∀ (j:Nat) (x:AV) (u:Value),cells[j]?=some x→us[j]?=some u→Rep F gs w x u):Rep F gs w (.ref cells) (.pointer (some ⟨g,o,none⟩))
  | any (u:Value) (h:u.oneCell'=true):Rep F gs w .any u
section
variable {F F':Nat→Nat→Prop} {gs gs':List (Option Nat)} {w w':World}
theorem At.mono {g o:Nat} {us:List Value} (h:At F w g o us) (hF:∀ b i,F b i→F' b i∧w'.cell? ⟨b,i,none⟩=w.cell? ⟨b,i,none⟩):At F' w' g o us:=fun j u hj=>by
  obtain ⟨h1,h2⟩:=h j u hj
  exact ⟨(hF _ _ h2).2.trans h1,(hF _ _ h2).1⟩
theorem Rep.mono {x:AV} {u:Value} (h:Rep F gs w x u) (hF:∀ b i,F b i→F' b i∧w'.cell? ⟨b,i,none⟩=w.cell? ⟨b,i,none⟩) (hg:∀ (b g:Nat),gs[b]?=some (some g)→gs'[b]?=some (some g)):Rep F' gs' w' x u:=by
  induction h with
  | val v h=>exact .val v h
  | nil=>exact .nil
  | empty A c tag ht=>exact .empty A c tag ht
  | row g o c sz elems us tag ht h0 hsz hl hn hm ha hf hr ih=>exact .row g o c sz elems us tag ht h0 hsz hl hn hm (ha.mono hF) hf ih
  | agg cells us hl hf hr ih=>exact .agg cells us hl hf ih
  | tup vs us hl hr ih=>exact .tup vs us hl ih
  | ptr b off g h=>exact .ptr b off g (hg b g h)
  | ref g o cells us hl ha hf hr ih=>exact .ref g o cells us hl (ha.mono hF) hf ih
  | any u h=>exact .any u h
def Reps (F:Nat→Nat→Prop) (gs:List (Option Nat)) (w:World) (cells:List AV) (us:List Value):Prop:=us.length=cells.length∧∀ (j:Nat) (x:AV) (u:Value),cells[j]?=some x→us[j]?=some u→Rep F gs w x u
def unt : AV → AV
  | .row elems (.own _)=>.row elems .no
  | x=>x
def untag : AV → AV
  | .agg cells=>.agg (cells.map unt)
  | x=>unt x
theorem flat_unt1 (x:AV):flat (unt x)=flat x:=by
  cases x with
  | row e tag=>cases tag <;> rfl
  | _=>rfl
theorem flat_unt {cells:List AV} (h:∀ x ∈ cells,flat x=true):∀ x ∈ cells.map V.unt,flat x=true:=fun x hx=>by
  obtain ⟨y,hy,rfl⟩:=List.mem_map.1 hx
  rw [flat_unt1]; exact h y hy
theorem Rep.one {x:AV} {u:Value} (h:Rep F gs w x u) (hf:flat x=true):u.oneCell'=true:=by
  cases h with
  | val _ h=>unfold plainV at h; split at h <;> first | rfl | cases h
  | agg=>cases hf
  | tup=>cases hf
  | ptr=>cases hf
  | ref=>cases hf
  | any _ h=>exact h
  | _=>rfl
theorem Rep.unt {x:AV} {u:Value} (h:Rep F gs w x u):Rep F gs w (unt x) u:=by
  cases h with
  | empty A c tag ht=>cases tag with
    | own r=>exact .empty A c .no (by simp)
    | no=>exact .empty A c .no (by simp)
    | nil=>exact absurd rfl ht
  | row g o c sz elems us tag ht h0 hsz hl hn hm ha hf hr=>cases tag with
    | own r=>exact .row g o c sz elems us .no (by simp) h0 hsz hl hn hm ha hf hr
    | no=>exact .row g o c sz elems us .no (by simp) h0 hsz hl hn hm ha hf hr
    | nil=>exact absurd rfl ht
  | val _ h=>exact .val _ h
  | nil=>exact .nil
  | agg cells us hl hf hr=>exact .agg cells us hl hf hr
  | tup vs us hl hr=>exact .tup vs us hl hr
  | ptr b off g h=>exact .ptr b off g h
  | ref g o cells us hl ha hf hr=>exact .ref g o cells us hl ha hf hr
  | any u h=>exact .any u h
theorem Reps.unt {cells:List AV} {us:List Value} (h:Reps F gs w cells us):Reps F gs w (cells.map V.unt) us:=by
  refine ⟨by rw [h.1,List.length_map],fun j x u hx hu=>?_⟩
  rw [List.getElem?_map,Option.map_eq_some_iff] at hx
  obtain ⟨y,hy,rfl⟩:=hx
  exact (h.2 j y u hy hu).unt
theorem Rep.untag {x:AV} {u:Value} (h:Rep F gs w x u):Rep F gs w (untag x) u:=by
  cases h with
  | agg cells us hl hf hr=>exact .agg _ us (by rw [hl,List.length_map]) (flat_unt hf) (Reps.unt ⟨hl,hr⟩).2
  | tup vs us hl hr=>exact .tup vs us hl hr
  | val _ h=>exact .val _ h
  | nil=>exact .nil
  | empty A c tag ht=>exact Rep.unt (.empty A c tag ht)
  | row g o c sz elems us tag ht h0 hsz hl hn hm ha hf hr=>exact Rep.unt (.row g o c sz elems us tag ht h0 hsz hl hn hm ha hf hr)
  | ptr b off g h=>exact .ptr b off g h
  | ref g o cells us hl ha hf hr=>exact .ref g o cells us hl ha hf hr
  | any u h=>exact .any u h
def wk1 : AV → AV
  | .row elems _=>.row elems .no
  | x=>x
def wk : AV → AV
  | .agg cells=>.agg (cells.map wk1)
  | x=>wk1 x
theorem flat_wk1 (x:AV):flat (wk1 x)=flat x:=by cases x <;> rfl
theorem flat_wk {cells:List AV} (h:∀ x ∈ cells,flat x=true):∀ x ∈ cells.map wk1,flat x=true:=fun x hx=>by
  obtain ⟨y,hy,rfl⟩:=List.mem_map.1 hx
  rw [flat_wk1]; exact h y hy
theorem Rep.wk1 {x:AV} {u:Value} (h:Rep F gs w x u):Rep F gs w (wk1 x) u:=by
  cases h with
  | empty A c tag ht=>exact .empty A c .no (by simp)
  | row g o c sz elems us tag ht h0 hsz hl hn hm ha hf hr=>exact .row g o c sz elems us .no (by simp) h0 hsz hl hn hm ha hf hr
  | val _ h=>exact .val _ h
  | nil=>exact .empty none 0 .no (by simp)
  | agg cells us hl hf hr=>exact .agg cells us hl hf hr
  | tup vs us hl hr=>exact .tup vs us hl hr
  | ptr b off g h=>exact .ptr b off g h
  | ref g o cells us hl ha hf hr=>exact .ref g o cells us hl ha hf hr
  | any u h=>exact .any u h
theorem Reps.wk {cells:List AV} {us:List Value} (h:Reps F gs w cells us):Reps F gs w (cells.map V.wk1) us:=by
  refine ⟨by rw [h.1,List.length_map],fun j x u hx hu=>?_⟩
  rw [List.getElem?_map,Option.map_eq_some_iff] at hx
  obtain ⟨y,hy,rfl⟩:=hx
  exact (h.2 j y u hy hu).wk1
theorem Rep.wk {x:AV} {u:Value} (h:Rep F gs w x u):Rep F gs w (V.wk x) u:=by
  cases h with
  | agg cells us hl hf hr=>exact .agg _ us (by rw [hl,List.length_map]) (flat_wk hf) (Reps.wk ⟨hl,hr⟩).2
  | empty A c tag ht=>exact Rep.wk1 (.empty A c tag ht)
  | row g o c sz elems us tag ht h0 hsz hl hn hm ha hf hr=>exact Rep.wk1 (.row g o c sz elems us tag ht h0 hsz hl hn hm ha hf hr)
  | val _ h=>exact .val _ h
  | nil=>exact Rep.wk1 .nil
  | tup vs us hl hr=>exact .tup vs us hl hr
  | ptr b off g h=>exact .ptr b off g h
  | ref g o cells us hl ha hf hr=>exact .ref g o cells us hl ha hf hr
  | any u h=>exact .any u h
theorem Reps.wks {cells:List AV} {us:List Value} (h:Reps F gs w cells us):Reps F gs w (cells.map V.wk) us:=by
  refine ⟨by rw [h.1,List.length_map],fun j x u hx hu=>?_⟩
  rw [List.getElem?_map,Option.map_eq_some_iff] at hx
  obtain ⟨y,hy,rfl⟩:=hx
  exact (h.2 j y u hy hu).wk
theorem Rep.regs {x:AV} {u:Value} (h:Rep F gs w x u):(∀ b o,x ≠ .ptr b o)→(∀ vs,x ≠ .tup vs)→Rep F gs' w x u:=by
  induction h with
  | val v h=>exact fun _ _=>.val v h
  | nil=>exact fun _ _=>.nil
  | empty A c tag ht=>exact fun _ _=>.empty A c tag ht
  | row g o c sz elems us tag ht h0 hsz hl hn hm ha hf hr ih=>exact fun _ _=>.row g o c sz elems us tag ht h0 hsz hl hn hm ha hf (fun j x u hx hu=>ih j x u hx hu (fun b o e=>by have:=hf x (List.mem_of_getElem? hx); rw [e] at this; cases this) (fun vs e=>by have:=hf x (List.mem_of_getElem? hx); rw [e] at this; cases this))
  | agg cells us hl hf hr ih=>exact fun _ _=>.agg cells us hl hf (fun j x u hx hu=>ih j x u hx hu (fun b o e=>by have:=hf x (List.mem_of_getElem? hx); rw [e] at this; cases this) (fun vs e=>by have:=hf x (List.mem_of_getElem? hx); rw [e] at this; cases this))
  | tup vs us hl hr ih=>exact fun _ h=>absurd rfl (h vs)
  | ptr b off g h=>exact fun h _=>absurd rfl (h b off)
  | ref g o cells us hl ha hf hr ih=>exact fun _ _=>.ref g o cells us hl ha hf (fun j x u hx hu=>ih j x u hx hu (fun b o e=>by have:=hf x (List.mem_of_getElem? hx); rw [e] at this; cases this) (fun vs e=>by have:=hf x (List.mem_of_getElem? hx); rw [e] at this; cases this))
  | any u h=>exact fun _ _=>.any u h
def argB : AV → Bool
  | .ptr _ _ | .tup _=>false
  | _=>true
theorem Rep.arg {x:AV} {u:Value} (h:Rep F gs w x u) (hx:argB x=true):Rep F gs' w x u:=h.regs (fun b o e=>by rw [e] at hx; cases hx) (fun vs e=>by rw [e] at hx; cases hx)
def resB : AV → Bool
  | .ptr _ _=>false
  | .tup vs=>vs.all argB
  | _=>true
theorem Rep.res {x:AV} {u:Value} (h:Rep F gs w x u) (hx:resB x=true):Rep F gs' w x u:=by
  cases h with
  | tup vs us hl hr=>exact .tup vs us hl (fun j x u hj hu=>(hr j x u hj hu).arg (List.all_eq_true.1 hx x (List.mem_of_getElem? hj)))
  | ptr b off g h=>cases hx
  | val _ h=>exact .val _ h
  | nil=>exact .nil
  | empty A c tag ht=>exact .empty A c tag ht
  | row g o c sz elems us tag ht h0 hsz hl hn hm ha hf hr=>exact Rep.arg (.row g o c sz elems us tag ht h0 hsz hl hn hm ha hf hr) rfl
  | agg cells us hl hf hr=>exact Rep.arg (.agg cells us hl hf hr) rfl
  | ref g o cells us hl ha hf hr=>exact Rep.arg (.ref g o cells us hl ha hf hr) rfl
  | any u h=>exact .any u h
end
structure St where
  n:Nat
  t:List (Nat × AV)
  b:List (List AV)
  h:List (Nat × Nat × Nat)
def look : List (Nat × AV) → Nat → Option AV
  | [],_=>none
  | (e,v) :: r,d=>bif Nat.beq e d then some v else look r d
theorem look_cons (e d:Nat) (v:AV) (r:List (Nat × AV)):look ((e,v) :: r) d=if e=d then some v else look r d:=by
  show (bif Nat.beq e d then some v else look r d)=_
  by_cases h:e=d
  · subst h; simp
  · rw [if_neg h]
    have:Nat.beq e d=false:=by
      cases hb:Nat.beq e d with
      | false=>rfl
      | true=>exact absurd (Nat.eq_of_beq_eq_true hb) h
    rw [this]; rfl
def constAV : Value → Option AV
  | .bool b=>some (.val (.bool b))
  | .int k i=>some (.val (.int k i))
  | .string s=>some (.val (.string s))
  | .pointer none=>some (.val (.pointer none))
  | .slice none 0 0=>some (.row [] .nil)
  | _=>none
def constsAV : List Value → Option (List AV)
  | []=>some []
  | v :: vs=>match constAV v,constsAV vs with | some x,some xs=>some (x :: xs) | _,_=>none
def constV : Value → Option AV
  | .agg cs=>(constsAV cs.toList).map .agg
  | v=>constAV v
def ev (t : List (Nat × AV)) : Operand → Option AV
  | .tmp d=>look t d
  | .const v=>constV v
  | .func f=>some (.val (.func (.func f) #[] #[]))
  | .global _=>none
def St.put (s:St) (d:Nat) (x:AV):St:={ s with t:=(d,x) :: s.t }
structure Env where
  F:Nat→Nat→Prop
  gs:List (Option Nat)
  rs:List Value
structure Ctx where
  w0:World
  F0:Nat→Nat→Prop
  gs0:List Nat
def TagOk (E:Env) (h:List (Nat × Nat × Nat)) (x:AV) (u:Value):Prop:=∀ elems r,x=.row elems (.own r)→∃ m e sz:Nat,h[r]?=some (m,e,sz)∧elems.length≤m∧(elems.length=m→E.rs[r]?=some u)
def RepT (E:Env) (h:List (Nat × Nat × Nat)) (w:World) (x:AV) (u:Value):Prop:=Rep E.F E.gs w x u∧TagOk E h x u
def RepTs (E:Env) (h:List (Nat × Nat × Nat)) (w:World) (cells:List AV) (us:List Value):Prop:=us.length=cells.length∧(∀ x ∈ cells,flat x=true)∧∀ (j:Nat) (x:AV) (u:Value),cells[j]?=some x→us[j]?=some u→RepT E h w x u
structure Mem (C : Ctx) (E : Env) (s : St) (w : World) : Prop where
  os:w.os=C.w0.os
  tape:w.tape=C.w0.tape
  output:w.output=C.w0.output
  size:C.w0.heap.size≤w.heap.size
  block:∀ k,k<C.w0.heap.size→k ∉ C.gs0→w.heap[k]?=C.w0.heap[k]?
  grow:∀ b i,C.F0 b i→E.F b i
  old:∀ b i,E.F b i→b<C.w0.heap.size→C.F0 b i
  bound:∀ b i,E.F b i→b<w.heap.size
  pre:∀ (i g:Nat),C.gs0[i]?=some g→E.gs[i]?=some (some g)
  boxn:E.gs.length=s.b.length
  boxes:∀ (i g:Nat) (cells:List AV),E.gs[i]?=some (some g)→s.b[i]?=some cells→∃ us ty,w.heap[g]?=some (.cells (List.toArray us) ty (0,0))∧RepTs E s.h w cells us
  fresh:∀ (i g:Nat),E.gs[i]?=some (some g)→(∀ o,¬ E.F g o)∧(C.w0.heap.size≤g ∨ g ∈ C.gs0)
  inj:∀ (i j g:Nat),E.gs[i]?=some (some g)→E.gs[j]?=some (some g)→i=j
  rown:E.rs.length=s.h.length
  rows:∀ (r:Nat) (v:Value) (n e size:Nat),E.rs[r]?=some v→s.h[r]?=some (n,e,size)→0<size∧∃ us,w.ownsRow C.w0.heap.size e size v n us∧(∀ g o,v.ownBlock=some g→E.F g o→o<us.length)
  rinj:∀ (r r':Nat) (v v':Value) (g:Nat),E.rs[r]?=some v→E.rs[r']?=some v'→v.ownBlock=some g→v'.ownBlock=some g→r=r'
  rbox:∀ (r i:Nat) (v:Value) (g:Nat),E.rs[r]?=some v→v.ownBlock=some g→E.gs[i]? ≠ some (some g)
structure Inv (C : Ctx) (E : Env) (s : St) (a : Act) (w : World) : Prop extends Mem C E s w where
  defers:a.defers=[]
  tsz:a.tmps.size=s.n
  temps:∀ (d:Nat) (x:AV),look s.t d=some x→∃ u,a.tmps[d]?=some u∧RepT E s.h w x u
section
variable {C:Ctx} {E:Env} {s:St} {a:Act} {w:World}
theorem rep_const {F:Nat→Nat→Prop} {gs:List (Option Nat)} {w:World}:∀ {v:Value} {x:AV},constAV v=some x→Rep F gs w x v∧∀ elems r,x ≠ .row elems (.own r):=by
  intro v x h
  unfold constAV at h
  split at h <;> first | (cases h; done) | (injection h with h; subst h; first | exact ⟨.val _ rfl,by simp⟩ | exact ⟨.nil,by simp⟩)
theorem reps_const {F : Nat → Nat → Prop} {gs : List (Option Nat)} {w : World} : ∀ {vs : List Value} {xs : List AV}, constsAV vs = some xs → Reps F gs w xs vs
  | [],xs,h=>by
    simp only [constsAV,Option.some.injEq] at h
    subst h
    exact ⟨rfl,fun j x u hx=>by simp at hx⟩
  | v :: vs,xs,h=>by
    simp only [constsAV] at h
    split at h
    · rename_i x ys hx hy
      simp only [Option.some.injEq] at h
      subst h
      have ih:=reps_const (F:=F) (gs:=gs) (w:=w) hy
      refine ⟨by simp [ih.1],fun j x' u hx' hu=>?_⟩
      cases j with
      | zero=>simp at hx' hu; subst hx'; subst hu; exact (rep_const hx).1
      | succ j=>exact ih.2 j x' u (by simpa using hx') (by simpa using hu)
    · cases h
theorem constAV_flat:∀ {v:Value} {x:AV},constAV v=some x→flat x=true:=by
  intro v x h
  unfold constAV at h
  split at h <;> first | (cases h; done) | (injection h with h; subst h; rfl)
theorem constsAV_flat : ∀ {vs : List Value} {xs : List AV}, constsAV vs = some xs → ∀ x ∈ xs, flat x = true
  | [],xs,h,x,hx=>by
    simp only [constsAV,Option.some.injEq] at h
    subst h; cases hx
  | v :: vs,xs,h,x,hx=>by
    simp only [constsAV] at h
    split at h
    · rename_i y ys hy hys
      simp only [Option.some.injEq] at h
      subst h
      rcases List.mem_cons.1 hx with rfl | hx
      · exact constAV_flat hy
      · exact constsAV_flat hys x hx
    · cases h
theorem repT_const {v:Value} {x:AV} (h:constV v=some x):RepT E s.h w x v:=by
  unfold constV at h
  split at h
  · rename_i cs
    rw [Option.map_eq_some_iff] at h
    obtain ⟨ys,hy,rfl⟩:=h
    have:=reps_const (F:=E.F) (gs:=E.gs) (w:=w) hy
    exact ⟨by simpa using Rep.agg ys cs.toList this.1 (constsAV_flat hy) this.2,by intro _ _ e; cases e⟩
  · obtain ⟨h1, h2⟩ := rep_const (F := E.F) (gs := E.gs) (w := w) h
    exact ⟨h1,fun elems r e=>absurd e (h2 elems r)⟩
theorem Inv.ev (hI:Inv C E s a w) {o:Operand} {x:AV} (h:ev s.t o=some x):RepT E s.h w x (a.eval o):=by
  cases o with
  | tmp d =>
    obtain ⟨u,hu,hr⟩:=hI.temps d x h
    have:a.eval (.tmp d)=u:=by simp [Act.eval,hu]
    rw [this]; exact hr
  | const v=>exact repT_const h
  | func f =>
    simp only [V.ev,Option.some.injEq] at h
    subst h
    exact ⟨.val _ rfl,by intro _ _ e; cases e⟩
  | global g=>cases h
theorem Inv.put (hI:Inv C E s a w) {d:Nat} {x:AV} {u:Value} (hd:d<s.n) (hr:RepT E s.h w x u):Inv C E (s.put d x) (a.put (some d) u) w:=by
  refine { hI.toMem with defers:=hI.defers,tsz:=by simp [Act.put,hI.tsz,St.put],temps:=fun d' x' h'=>?_ }
  simp only [St.put] at h'
  rw [look_cons] at h'
  by_cases e:d=d'
  · subst e
    rw [if_pos rfl] at h'
    injection h' with h'
    subst h'
    exact ⟨u,by simp [Act.put,hI.tsz,hd],hr⟩
  · rw [if_neg e] at h'
    obtain ⟨u',h1,h2⟩:=hI.temps d' x' h'
    exact ⟨u',by simp [Act.put,e,h1],h2⟩
theorem Inv.less (hI:Inv C E s a w) {t:List (Nat × AV)} (h:∀ d x,look t d=some x→look s.t d=some x):Inv C E { s with t:=t } a w :=
  { hI.toMem with defers:=hI.defers,tsz:=hI.tsz,temps:=fun d x hd=>hI.temps d x (h d x hd) }
end
def Lift (C:Ctx) (Q:Exit→St→Prop):Exit→Act→World→Prop:=fun e a w=>∃ E s,Q e s∧Inv C E s a w
def AWP (P:Program) (c:Code) (Q:Exit→St→Prop) (s:St):Prop:=∀ C E a w,Inv C E s a w→c.wp P (Lift C Q) a w
def thenQ (K : St → Prop) (Q : Exit → St → Prop) : Exit → St → Prop
  | .normal,s=>K s
  | e,s=>Q e s
def blockQ (id : Nat) (Q : Exit → St → Prop) : Exit → St → Prop
  | .exit j,s=>if j=id then Q .normal s else Q (.exit j) s
  | e,s=>Q e s
section
variable {P:Program} {Q:Exit→St→Prop} {s:St}
theorem awp_skip (h:Q .normal s):AWP P .skip Q s:=fun C E a w hI=>wp_skip ⟨E,s,h,hI⟩
theorem awp_ret (h:Q .ret s):AWP P .ret Q s:=fun C E a w hI=>wp_ret ⟨E,s,h,hI⟩
theorem awp_exit {id:Nat} (h:Q (.exit id) s):AWP P (.exit id) Q s:=fun C E a w hI=>wp_exit ⟨E,s,h,hI⟩
theorem awp_seq {x y:Code} (h:AWP P x (thenQ (AWP P y Q) Q) s):AWP P (.seq x y) Q s:=fun C E a w hI =>
  wp_seq (wp_mono (h C E a w hI) (fun e a w ⟨E,s,hq,hI⟩=>by
    cases e with
    | normal=>exact hq C E a w hI
    | _=>exact ⟨E,s,hq,hI⟩))
theorem awp_cond {c:Operand} {x y:Code} {b:Bool} (hc:ev s.t c=some (.val (.bool b))) (hx:b=true→AWP P x Q s) (hy:b=false→AWP P y Q s):AWP P (.cond c x y) Q s:=fun C E a w hI=>by
  have hr:=(hI.ev hc).1
  generalize hu:a.eval c=u at hr
  cases hr with
  | val v h =>
    refine wp_cond hu ?_
    cases b with
    | true=>exact hx rfl C E a w hI
    | false=>exact hy rfl C E a w hI
theorem awp_block {id:Nat} {c:Code} (h:AWP P c (blockQ id Q) s):AWP P (.block id c) Q s:=fun C E a w hI =>
  wp_block (wp_mono (h C E a w hI) (fun e a w ⟨E,s,hq,hI⟩=>by
    cases e with
    | exit j =>
      simp only [blockQ] at hq
      simp only [Exit.inBlock]
      by_cases e:j=id
      · rw [if_pos e] at hq ⊢; exact ⟨E,s,hq,hI⟩
      · rw [if_neg e] at hq ⊢; exact ⟨E,s,hq,hI⟩
    | _=>exact ⟨E,s,hq,hI⟩))
theorem least {p:Nat→Prop}:∀ n,p n→∃ m,p m∧∀ k,p k→m≤k:=by
  intro n
  induction n using Nat.strongRecOn with
  | _ n ih =>
    intro hn
    by_cases h:∃ m,m<n∧p m
    · obtain ⟨m, h1, h2⟩ := h
      exact ih m h1 h2
    · exact ⟨n,hn,fun k hk=>Nat.le_of_not_lt fun hlt=>h ⟨k,hlt,hk⟩⟩
def AOps (P:Program) (ops:Array Oper) (l:List Oper) (Q:Exit→St→Prop) (s:St):Prop:=∀ C E a w,Inv C E s a w→wpList P ops (Lift C Q) l a w
theorem awp_region {id:Nat} {l:List Oper} (h:AOps P l.toArray l Q s):AWP P (.region id l.toArray false) Q s:=fun C E a w hI=>wp_region_lit (h C E a w hI)
theorem aops_nil {ops:Array Oper} (h:Q .normal s):AOps P ops [] Q s:=fun C E a w hI=>⟨E,s,h,hI⟩
def Sub (t t':List (Nat × AV)):Prop:=∀ d x,look t d=some x→look t' d=some x
theorem ev_sub {t t':List (Nat × AV)} (h:Sub t t') {o:Operand} {x:AV} (he:ev t o=some x):ev t' o=some x:=by
  cases o with
  | tmp d=>exact h d x he
  | const v=>exact he
  | func f=>exact he
  | global g=>exact he
def Step (P:Program) (o:Oper) (t:List (Nat × AV)) (b:List (List AV)) (x:AV):Prop :=
  ∀ C E s a w,Inv C E s a w→s.b=b→Sub t s.t→∀ (K:Act→World→Prop) (Q:Exit→Act→World→Prop),(∀ E' u w',E'.gs=E.gs→(∀ s2,Inv C E s2 a w→Inv C E' s2 a w')→RepT E' s.h w' x u→K (a.put o.dst u) w')→o.wp P a w K Q
theorem aops_step {ops:Array Oper} {o:Oper} {rest:List Oper} {d:Nat} {x:AV} (hs:Step P o s.t s.b x) (hg:o.guard=none) (hd:o.dst=some d) (hn:Nat.blt d s.n=true) (h:AOps P ops rest Q (s.put d x)):AOps P ops (o :: rest) Q s:=fun C E a w hI =>
  wpList_plain hg fun K hK=>hs C E s a w hI rfl (fun _ _ h=>h) K _ fun E' u w' _ hI' hr=>by
    rw [hd]
    exact hK _ _ (h C E' _ w' ((hI' s hI).put (Nat.le_of_ble_eq_true hn) hr))
theorem Inv.skip {C:Ctx} {E:Env} {a:Act} {w:World} (hI:Inv C E s a w) {d:Nat} (hd:d<s.n):Inv C E (s.put d (.tup [])) (a.put (some d) undef) w :=
  hI.put hd ⟨Rep.tup [] [] rfl (by intro j x u hx; simp at hx),by intro _ _ e; cases e⟩
theorem aops_guard {ops : Array Oper} {o : Oper} {rest : List Oper} {d j dj : Nat} {want b : Bool} {x : AV} (hg : o.guard = some (j, want)) (hj : (ops[j]?).bind (·.dst) = some dj) (hb : look s.t dj = some (.val (.bool b)))
    (hd:o.dst=some d) (hn:Nat.blt d s.n=true) (hs:b=want→Step P o s.t s.b x∧AOps P ops rest Q (s.put d x)) (hk:b ≠ want→AOps P ops rest Q (s.put d (.tup []))):AOps P ops (o :: rest) Q s:=fun C E a w hI =>
  wpList_step fun K hK=>by
    obtain ⟨u,hu,hr⟩:=hI.temps dj _ hb
    have hy:yielded ops a.tmps j=some b:=by
      have hr1:=hr.1
      cases hr1
      unfold yielded
      rw [hj]
      simp [hu]
    by_cases e:b=want
    · have hw:Region.wanted o (yielded ops a.tmps)=true:=by
        simp [Region.wanted,hg,hy,e]
      rw [if_pos hw]
      obtain ⟨h1,h2⟩:=hs e
      refine h1 C E s a w hI rfl (fun _ _ h=>h) K _ fun E' u w' _ hI' hr=>?_
      rw [hd]
      exact hK _ _ (h2 C E' _ w' ((hI' s hI).put (Nat.le_of_ble_eq_true hn) hr))
    · have hw:¬ Region.wanted o (yielded ops a.tmps)=true:=by
        simpa [Region.wanted,hg,hy] using e
      rw [if_neg hw,hd]
      exact hK _ _ (hk e C E _ w (hI.skip (Nat.le_of_ble_eq_true hn)))
theorem step_value {o : Oper} {t : List (Nat × AV)} {b : List (List AV)} {x : AV}
    (h:∀ C E s a w,Inv C E s a w→s.b=b→Sub t s.t→∃ u,(execOp a.eval o).run P w=.ok (.value u) w∧RepT E s.h w x u):Step P o t b x:=fun C E s a w hI hb ht K Q hK=>by
  obtain ⟨u,hr,hx⟩:=h C E s a w hI hb ht
  unfold Oper.wp
  rw [hr,Oper.upon_value]
  exact hK E u w rfl (fun _ h=>h) hx
theorem step_move {o:Oper} {t:List (Nat × AV)} {b:List (List AV)} {y:Operand} {x:AV} (ho:o.op=.move y) (hy:ev t y=some x):Step P o t b x:=step_value fun C E s a w hI hb ht =>
  ⟨a.eval y,by simp [execOp,ho],hI.ev (ev_sub ht hy)⟩
theorem step_assign {o:Oper} {t:List (Nat × AV)} {b:List (List AV)} {y:Operand} {x:AV} (ho:o.op=.assign y) (hy:ev t y=some x):Step P o t b x:=step_value fun C E s a w hI hb ht =>
  ⟨a.eval y,by simp [execOp,ho],hI.ev (ev_sub ht hy)⟩
theorem rep_val {F:Nat→Nat→Prop} {gs:List (Option Nat)} {w:World} {v u:Value} (h:Rep F gs w (.val v) u):u=v∧plainV v=true:=by cases h with | val _ h=>exact ⟨rfl,h⟩
theorem step_pick {o:Oper} {t:List (Nat × AV)} {b:List (List AV)} {c y z:Operand} {q:Bool} {x:AV} (ho:o.op=.pick c y z) (hc:ev t c=some (.val (.bool q))) (hy:ev t (if q then y else z)=some x):Step P o t b x:=step_value fun C E s a w hI hb ht=>by
  have h1:=(rep_val (hI.ev (ev_sub ht hc)).1).1
  refine ⟨a.eval (if q then y else z),?_,hI.ev (ev_sub ht hy)⟩
  simp only [execOp,ho,h1]
  cases q <;> simp [go_sem]
end
inductive TyK where
  | one
  | agg (n:Nat)
def tyK (P:Program) (t:TypeId):Option TyK :=
  match P.underlying t,P.info? t with
  | some d,some i=>if d.isRow then some (.agg i.size) else if i.size=1 then some .one else none
  | _,_=>none
class Ty (P : Program) (t : TypeId) (k : outParam TyK) : Prop where
  out:tyK P t=some k
def fldK (P:Program) (s:TypeId) (j:Nat):Option (Nat × TyK) :=
  match P.underlying s with
  | some (.struct fields)=>match fields[j]? with
    | some f=>(tyK P f.type).bind fun k=>match k with | .agg 0=>none | k=>some (f.offset,k)
    | none=>none
  | _=>none
class Fld (P : Program) (s : TypeId) (j : Nat) (off : outParam Nat) (k : outParam TyK) : Prop where
  out:fldK P s j=some (off,k)
def slK (P:Program) (t:TypeId):Option (TypeId × Nat) :=
  match P.underlying t with
  | some (.slice e)=>match P.info? e with | some i=>some (e,i.size) | none=>none
  | _=>none
class Sl (P : Program) (t : TypeId) (e : outParam TypeId) (sz : outParam Nat) : Prop where
  out:slK P t=some (e,sz)
def ldAV (k:TyK) (cells:List AV) (off:Nat):Option AV :=
  match k with
  | .one=>cells[off]?
  | .agg n=>if off + n≤cells.length then some (.agg (((cells.drop off).take n).map unt)) else none
section
variable {P:Program} {Q:Exit→St→Prop} {s:St}
theorem tyK_one {t:TypeId} (h:tyK P t=some .one):∃ d i,P.underlying t=some d∧d.isRow=false∧P.info? t=some i∧i.size=1:=by
  unfold tyK at h
  split at h
  · rename_i d i hd hi
    split at h
    · cases h
    · rename_i hr
      split at h
      · exact ⟨d,i,hd,by simpa using hr,hi,by assumption⟩
      · cases h
  · cases h
theorem tyK_agg {t:TypeId} {n:Nat} (h:tyK P t=some (.agg n)):∃ d i,P.underlying t=some d∧d.isRow=true∧P.info? t=some i∧i.size=n:=by
  unfold tyK at h
  split at h
  · rename_i d i hd hi
    split at h
    · injection h with h; injection h with h
      exact ⟨d,i,hd,by assumption,hi,h⟩
    · split at h <;> cases h
  · cases h
theorem run_load1 {w:World} {t:TypeId} {g o:Nat} {u:Value} (h:tyK P t=some .one) (hc:w.cell? ⟨g,o,none⟩=some u):(Instr.loadAt t (.pointer (some ⟨g,o,none⟩))).run P w=.ok u w:=by
  obtain ⟨d,i,hd,hr,hi,_⟩:=tyK_one h
  have hagg:(isAgg t).run P w=.ok false w:=by
    unfold isAgg
    rw [Sem.run_bind,run_underlying hd w]
    cases d <;> simp_all [TypeDesc.isRow]
  simp [Instr.loadAt,Instr.sureAddr,loadVar,Sem.run_bind,hagg,hc]
theorem run_loadN {w:World} {t:TypeId} {g o n:Nat} {us:List Value} (h:tyK P t=some (.agg n)) (hl:us.length=n) (hc:∀ j u,us[j]?=some u→w.cell? ⟨g,o + j,none⟩=some u):(Instr.loadAt t (.pointer (some ⟨g,o,none⟩))).run P w=.ok (.agg us.toArray) w:=by
  obtain ⟨d,i,hd,hr,hi,hn⟩:=tyK_agg h
  exact run_loadAt_mid w g o t us d hc hd hr (by rw [hi,hl,← hn]; rfl)
theorem load_box {C:Ctx} {E:Env} {w:World} (hM:Mem C E s w) {ty:TypeId} {i g off:Nat} {k:TyK} {cells:List AV} {x:AV} (hg:E.gs[i]?=some (some g)) (hb:s.b[i]?=some cells) (hT:tyK P ty=some k) (hx:ldAV k cells off=some x) :
    ∃ u,(Instr.loadAt ty (.pointer (some ⟨g,off,none⟩))).run P w=.ok u w∧RepT E s.h w x u:=by
  obtain ⟨us,tb,hh,hl,hf,hr⟩:=hM.boxes i g cells hg hb
  have hcell:∀ j u,us[j]?=some u→w.cell? ⟨g,j,none⟩=some u:=fun j u hj=>by rw [World.cell?,hh]; simpa using hj
  cases k with
  | one =>
    simp only [ldAV] at hx
    have hlt:off<us.length:=by rw [hl]; exact (List.getElem?_eq_some_iff.1 hx).1
    have hu2:us[off]?=some us[off]:=List.getElem?_eq_getElem hlt
    exact ⟨us[off],run_load1 hT (hcell off _ hu2),hr off x _ hx hu2⟩
  | agg n =>
    simp only [ldAV] at hx
    split at hx
    · rename_i hle
      injection hx with hx
      subst hx
      refine ⟨.agg ((us.drop off).take n).toArray,?_,Rep.agg _ _ ?_ (flat_unt fun x hx=>hf x (List.mem_of_mem_drop (List.mem_of_mem_take hx))) ?_,by intro _ _ e; cases e⟩
      · refine run_loadN hT (us := (us.drop off).take n) (by simp [hl]; omega) (fun j u hj => ?_)
        rw [List.getElem?_take] at hj
        split at hj
        · rw [List.getElem?_drop] at hj; exact hcell _ _ hj
        · cases hj
      · simp [hl]
      · intro j y u hy hu
        rw [List.getElem?_map,Option.map_eq_some_iff] at hy
        obtain ⟨z,hz,rfl⟩:=hy
        rw [List.getElem?_take] at hz hu
        split at hz
        · rename_i hjn
          rw [if_pos hjn] at hu
          rw [List.getElem?_drop] at hz hu
          exact (hr _ z u hz hu).1.unt
        · cases hz
    · cases hx
theorem step_load_box {o:Oper} {t:List (Nat × AV)} {b:List (List AV)} {ty:TypeId} {y:Operand} {i off:Nat} {k:TyK} {cells:List AV} {x:AV} (ho:o.op=.load ty y) (hy:ev t y=some (.ptr i off)) (hb:b[i]?=some cells) [hT:Ty P ty k] (hx:ldAV k cells off=some x):Step P o t b x:=step_value fun C E s a w hI hbe ht=>by
  subst hbe
  have h1:=(hI.ev (ev_sub ht hy)).1
  generalize hu:a.eval y=u at h1
  cases h1 with
  | ptr _ _ g hg =>
    obtain ⟨v,h2,h3⟩:=load_box hI.toMem hg hb hT.out hx
    refine ⟨v,?_,h3⟩
    simp only [execOp,ho,hu]
    rw [Sem.run_bind,h2]
    rfl
theorem step_load_ref {o:Oper} {t:List (Nat × AV)} {b:List (List AV)} {ty:TypeId} {y:Operand} {k:TyK} {cells:List AV} {x:AV} (ho:o.op=.load ty y) (hy:ev t y=some (.ref cells)) [hT:Ty P ty k] (hx:ldAV k cells 0=some x):Step P o t b (unt x):=step_value fun C E s a w hI hbe ht=>by
  have h1:=(hI.ev (ev_sub ht hy)).1
  generalize hu:a.eval y=u at h1
  cases h1 with
  | ref g off _ us hl ha hf hr =>
    have hcell:∀ j u,us[j]?=some u→w.cell? ⟨g,off + j,none⟩=some u:=fun j u hj=>(ha j u hj).1
    cases k with
    | one =>
      simp only [ldAV] at hx
      have hlt:0<us.length:=by rw [hl]; exact (List.getElem?_eq_some_iff.1 hx).1
      have hu2:us[0]?=some us[0]:=List.getElem?_eq_getElem hlt
      refine ⟨us[0],?_,(hr 0 x _ hx hu2).unt,?_⟩
      · simp only [execOp, ho, hu]
        rw [Sem.run_bind,run_load1 hT.out (by simpa using hcell 0 _ hu2)]
        rfl
      · intro c r e
        unfold unt at e
        split at e
        · injection e with _ e; cases e
        · rename_i h2; exact absurd e (h2 c r)
    | agg n =>
      simp only [ldAV] at hx
      split at hx
      · rename_i hle
        injection hx with hx
        subst hx
        refine ⟨.agg (us.take n).toArray,?_,?_,by intro _ _ e; cases e⟩
        · simp only [execOp, ho, hu]
          rw [Sem.run_bind,run_loadN hT.out (us:=us.take n) (by simp [hl]; omega) (fun j u hj=>?_)]
          · rfl
          · rw [List.getElem?_take] at hj
            split at hj
            · exact hcell _ _ hj
            · cases hj
        · refine Rep.agg _ _ (by simp [hl]) (flat_unt fun x hx => hf x (List.mem_of_mem_drop (List.mem_of_mem_take hx))) ?_
          intro j y u hy hu
          rw [List.getElem?_map,Option.map_eq_some_iff] at hy
          obtain ⟨z,hz,rfl⟩:=hy
          rw [List.drop_zero,List.getElem?_take] at hz
          rw [List.getElem?_take] at hu
          split at hz
          · rename_i hjn
            rw [if_pos hjn] at hu
            exact (hr _ z u hz hu).unt
          · cases hz
      · cases hx
theorem fldK_run {w:World} {st:TypeId} {j off:Nat} {k:TyK} {A:Addr} (h:fldK P st j=some (off,k)):(Instr.fieldAt st (.pointer (some A)) j).run P w=.ok (.pointer (some (A.add off))) w:=by
  unfold fldK at h
  split at h
  · rename_i fields hf
    split at h
    · rename_i f hj
      rw [Option.bind_eq_some_iff] at h
      obtain ⟨k',hk',h2⟩:=h
      have hsz:∃ i,P.info? f.type=some i∧i.size ≠ 0∧f.offset=off:=by
        cases k' with
        | one =>
          obtain ⟨d,i,_,_,hi,h1⟩:=tyK_one hk'
          injection h2 with h2; injection h2 with h2
          exact ⟨i,hi,by omega,h2⟩
        | agg n =>
          obtain ⟨d,i,_,_,hi,h1⟩:=tyK_agg hk'
          cases n with
          | zero=>cases h2
          | succ n =>
            injection h2 with h2; injection h2 with h2
            exact ⟨i,hi,by omega,h2⟩
      obtain ⟨i,hi,hne,rfl⟩:=hsz
      simp [Instr.fieldAt,Sem.run_bind,run_underlying hf w,hj,Instr.sureAddr,fieldPlace,sizeOf,typeInfo,hi,hne]
    · cases h
  · cases h
theorem step_fieldAddr_box {o:Oper} {t:List (Nat × AV)} {b:List (List AV)} {st:TypeId} {y:Operand} {j i off fo:Nat} {k:TyK} (ho:o.op=.fieldAddr st y j) (hy:ev t y=some (.ptr i off)) [hT:Fld P st j fo k]:Step P o t b (.ptr i (off + fo)):=step_value fun C E s a w hI hbe ht=>by
  have h1:=(hI.ev (ev_sub ht hy)).1
  generalize hu:a.eval y=u at h1
  cases h1 with
  | ptr _ _ g hg =>
    refine ⟨_,by simp only [execOp,ho,hu]; rw [Sem.run_bind,fldK_run hT.out]; rfl,?_,by intro _ _ e; cases e⟩
    rw [Addr.add_mid]
    exact .ptr i (off + fo) g hg
def tyN : TyK → Nat
  | .one=>1
  | .agg n=>n
theorem step_fieldAddr_ref {o:Oper} {t:List (Nat × AV)} {b:List (List AV)} {st:TypeId} {y:Operand} {j fo:Nat} {k:TyK} {cells:List AV} (ho:o.op=.fieldAddr st y j) (hy:ev t y=some (.ref cells)) [hT:Fld P st j fo k]:Step P o t b (.ref ((cells.drop fo).take (tyN k))):=step_value fun C E s a w hI hbe ht=>by
  have h1:=(hI.ev (ev_sub ht hy)).1
  generalize hu:a.eval y=u at h1
  cases h1 with
  | ref g off _ us hl ha hf hr =>
    refine ⟨_,by simp only [execOp,ho,hu]; rw [Sem.run_bind,fldK_run hT.out]; rfl,?_,by intro _ _ e; cases e⟩
    rw [Addr.add_mid]
    refine .ref g (off + fo) _ ((us.drop fo).take (tyN k)) (by simp [hl]) (fun i u hi=>?_) (fun x hx=>hf x (List.mem_of_mem_drop (List.mem_of_mem_take hx))) (fun i x u hx hi=>?_)
    · rw [List.getElem?_take] at hi
      split at hi
      · rw [List.getElem?_drop] at hi
        rw [Nat.add_assoc]
        exact ha _ _ hi
      · cases hi
    · rw [List.getElem?_take] at hi hx
      split at hi
      · rename_i hlt
        rw [if_pos hlt] at hx
        rw [List.getElem?_drop] at hi hx
        exact hr _ x u hx hi
      · cases hi
end
def spl {α:Type} (us:List α) (off:Nat) (cs:List α):List α:=us.take off ++ cs ++ us.drop (off + cs.length)
theorem spl_len {α:Type} (us:List α) (off:Nat) (cs:List α) (h:off + cs.length≤us.length):(spl us off cs).length=us.length:=by simp [spl]; omega
theorem spl_at {α:Type} (us:List α) (off:Nat) (cs:List α) (h:off + cs.length≤us.length) (j:Nat):(spl us off cs)[j]?=if off≤j∧j<off + cs.length then cs[j - off]? else us[j]?:=by
  unfold spl
  by_cases h1:j<off
  · rw [if_neg (by omega),List.append_assoc,List.getElem?_append_left (by simp; omega),List.getElem?_take,if_pos h1]
  · by_cases h2 : j < off + cs.length
    · rw [if_pos ⟨by omega, h2⟩, List.append_assoc, List.getElem?_append_right (by simp; omega), List.getElem?_append_left (by simp; omega)]
      congr 1; simp; omega
    · rw [if_neg (by omega), List.getElem?_append_right (by simp; omega), List.getElem?_drop]
      congr 1; simp; omega
theorem setCells_heap {w : World} {g : Nat} {ty : TypeId} {fr : Nat × Nat} : ∀ (cs : List Value) (off : Nat) (us : List Value) (w : World), w.heap[g]? = some (.cells us.toArray ty fr) → off + cs.length ≤ us.length →
    (w.setCells g off cs).heap[g]?=some (.cells (spl us off cs).toArray ty fr)
  | [],off,us,w,h,hl=>by simpa [World.setCells,spl] using h
  | v :: r,off,us,w,h,hl=>by
    simp only [List.length_cons] at hl
    have h1:(w.setCell ⟨g,off,none⟩ v).heap[g]?=some (.cells (us.set off v).toArray ty fr):=by
      simp only [World.setCell,Array.getElem?_modify,if_true,h,Option.map_some]
      simp
    have:=setCells_heap (w:=w) (g:=g) (ty:=ty) r (off + 1) (us.set off v) _ h1 (by simp; omega)
    rw [World.setCells,this]
    congr 2
    apply congrArg
    apply List.ext_getElem?
    intro j
    rw [spl_at _ _ _ (by simp; omega),spl_at _ _ _ (by simp; omega)]
    simp only [List.length_cons]
    by_cases e1:off + 1≤j∧j<off + 1 + r.length
    · rw [if_pos e1,if_pos (by omega),show j - off=(j - (off + 1)) + 1 by omega,List.getElem?_cons_succ]
    · rw [if_neg e1]
      by_cases e2:j=off
      · subst e2
        rw [if_pos (by omega),Nat.sub_self,List.getElem?_set_self (by omega)]; rfl
      · rw [if_neg (by omega),List.getElem?_set_ne (by omega)]
theorem setCells_size (g : Nat) : ∀ (vs : List Value) (off : Nat) (w : World), (w.setCells g off vs).heap.size = w.heap.size
  | [],_,_=>rfl
  | v :: r,off,w=>by rw [World.setCells,setCells_size g r]; simp [World.setCell]
theorem setCells_tape (g : Nat) : ∀ (vs : List Value) (off : Nat) (w : World), (w.setCells g off vs).tape = w.tape
  | [],_,_=>rfl
  | v :: r,off,w=>by rw [World.setCells,setCells_tape g r]; rfl
theorem run_storeN {P:Program} {w:World} {t:TypeId} {k:TyK} {g off:Nat} {v:Value} (h:tyK P t=some k) (hl:v.cells.toList.length=tyN k) (hc:∀ j,j<tyN k→(w.cell? ⟨g,off + j,none⟩).isSome=true) (hfz:∀ j,j<tyN k→w.frozen? ⟨g,off + j,none⟩=false) (h1:∀ u ∈ v.cells.toList,u.oneCell'=true) :
    (Instr.storeAt t (.pointer (some ⟨g,off,none⟩)) v).run P w=.ok () (w.setCells g off v.cells.toList):=by
  have hsz:∃ i,P.info? t=some i∧i.size=tyN k:=by
    cases k with
    | one=>obtain ⟨d,i,_,_,hi,h1⟩:=tyK_one h; exact ⟨i,hi,h1⟩
    | agg n=>obtain ⟨d,i,_,_,hi,h1⟩:=tyK_agg h; exact ⟨i,hi,h1⟩
  obtain ⟨i,hi,hn⟩:=hsz
  have:=run_storeCells_cells (P:=P) g off v.cells.toList 0 w (fun j hj=>by simpa using hc j (by omega)) (fun j hj=>by first | (simp; done) | simpa using hfz j (by omega)) h1
  simp only [Nat.add_zero] at this
  have hl2:v.cells.size=tyN k:=by simpa using hl
  simp [Instr.storeAt,Instr.sureAddr,storeVar,sizeOf,typeInfo,Sem.run_bind,hi,hn,hl2,this]
def cellsAV : AV → Option (List AV)
  | .agg cells=>some (cells.map unt)
  | .val v=>some [.val v]
  | .row e tag=>some [.row e tag]
  | _=>none
theorem tagOk_unt {E:Env} {h:List (Nat × Nat × Nat)} {x:AV} {u:Value}:TagOk E h (unt x) u:=by
  intro c r e
  unfold unt at e
  split at e
  · injection e with _ e; cases e
  · rename_i h2; exact absurd e (h2 c r)
theorem cellsAV_rep {E:Env} {h:List (Nat × Nat × Nat)} {w:World} {x:AV} {u:Value} {cells:List AV} (hr:RepT E h w x u) (hx:cellsAV x=some cells):RepTs E h w cells u.cells.toList:=by
  obtain ⟨h1,h2⟩:=hr
  unfold cellsAV at hx
  split at hx
  · rename_i cs
    injection hx with hx
    subst hx
    cases h1 with
    | agg _ us hl hf hr =>
      refine ⟨by simp [Value.cells,hl],flat_unt hf,fun j y v hy hv=>?_⟩
      rw [List.getElem?_map,Option.map_eq_some_iff] at hy
      obtain ⟨z,hz,rfl⟩:=hy
      exact ⟨(hr j z v hz (by simpa [Value.cells] using hv)).unt,tagOk_unt⟩
  · injection hx with hx
    subst hx
    cases h1 with
    | val _ hp =>
      have hone:u.cells=#[u]:=by unfold plainV at hp; split at hp <;> first | rfl | cases hp
      rw [hone]
      refine ⟨rfl,by simp [flat],fun j y v hy hv=>?_⟩
      cases j with
      | zero=>simp at hy hv; subst hy; subst hv; exact ⟨.val _ hp,h2⟩
      | succ j=>simp at hy
  · injection hx with hx
    subst hx
    have hone:u.cells=#[u]:=by cases h1 <;> rfl
    rw [hone]
    refine ⟨rfl,by simp [flat],fun j y v hy hv=>?_⟩
    cases j with
    | zero=>simp at hy hv; subst hy; subst hv; exact ⟨h1,h2⟩
    | succ j=>simp at hy
  · cases hx
theorem RepTs.one {E:Env} {h:List (Nat × Nat × Nat)} {w:World} {cells:List AV} {us:List Value} (hr:RepTs E h w cells us):∀ u ∈ us,u.oneCell'=true:=fun u hu=>by
  obtain ⟨j,hj,rfl⟩:=List.getElem_of_mem hu
  have hl:=hr.1
  have hx:cells[j]?=some (cells[j]'(by omega)):=List.getElem?_eq_getElem (by omega)
  exact (hr.2.2 j _ _ hx (List.getElem?_eq_getElem hj)).1.one (hr.2.1 _ (List.getElem_mem _))
structure Env.le (E E' : Env) : Prop where
  F:∀ b i,E.F b i→E'.F b i
  gs:∀ (b g:Nat),E.gs[b]?=some (some g)→E'.gs[b]?=some (some g)
section
variable {P:Program} {Q:Exit→St→Prop} {s:St} {C:Ctx} {E:Env} {a:Act} {w:World}
theorem cell_blk {w w':World} {b i:Nat} (h:w'.heap[b]?=w.heap[b]?):w'.cell? ⟨b,i,none⟩=w.cell? ⟨b,i,none⟩:=World.cell?_of_block h
theorem Mem.box (hM:Mem C E s w) {cells:List AV} {us:List Value} (hr:RepTs E s.h w cells us) (ty:TypeId) :
    Mem C { E with gs:=E.gs ++ [some w.heap.size] } { s with b:=s.b ++ [cells] } (w.alloc (.cells us.toArray ty (0,0))) ∧
    (∀ x u,RepT E s.h w x u→RepT { E with gs:=E.gs ++ [some w.heap.size] } s.h (w.alloc (.cells us.toArray ty (0,0))) x u):=by
  have hsz:(w.alloc (.cells us.toArray ty (0,0))).heap.size=w.heap.size + 1:=by show (w.heap.push _).size=_; simp
  have hblk:∀ k,k<w.heap.size→(w.alloc (.cells us.toArray ty (0,0))).heap[k]?=w.heap[k]?:=fun k hk=>Below.heap_alloc w _ k hk
  have hnew:(w.alloc (.cells us.toArray ty (0,0))).heap[w.heap.size]?=some (.cells us.toArray ty (0,0)):=by show (w.heap.push _)[w.heap.size]?=_; simp
  have hgs:∀ (b g:Nat),E.gs[b]?=some (some g)→(E.gs ++ [some w.heap.size])[b]?=some (some g):=fun b g h=>by
    rw [List.getElem?_append_left (List.getElem?_eq_some_iff.1 h).1]; exact h
  have hinv:∀ (i g:Nat),(E.gs ++ [some w.heap.size])[i]?=some (some g)→E.gs[i]?=some (some g) ∨ (i=E.gs.length∧g=w.heap.size):=fun i g h=>by
    by_cases hi:i<E.gs.length
    · rw [List.getElem?_append_left hi] at h; exact .inl h
    · rw [List.getElem?_append_right (by omega)] at h
      have:i - E.gs.length=0:=by
        have:=(List.getElem?_eq_some_iff.1 h).1
        simp at this; omega
      rw [this] at h
      simp at h
      exact .inr ⟨by omega,h.symm⟩
  have hlt:∀ (i g:Nat),E.gs[i]?=some (some g)→g<w.heap.size:=fun i g h=>by
    have hi:i<s.b.length:=by rw [← hM.boxn]; exact (List.getElem?_eq_some_iff.1 h).1
    obtain ⟨us,t,hh,_⟩:=hM.boxes i g _ h (List.getElem?_eq_getElem hi)
    exact (Array.getElem?_eq_some_iff.1 hh).1
  have hrep:∀ x u,RepT E s.h w x u→RepT { E with gs:=E.gs ++ [some w.heap.size] } s.h (w.alloc (.cells us.toArray ty (0,0))) x u:=fun x u h =>
    ⟨h.1.mono (fun b i hF=>⟨hF,cell_blk (hblk b (hM.bound b i hF))⟩) hgs,h.2⟩
  have hreps:∀ cells us',RepTs E s.h w cells us'→RepTs { E with gs:=E.gs ++ [some w.heap.size] } s.h (w.alloc (.cells us.toArray ty (0,0))) cells us':=fun cells us' h=>⟨h.1,h.2.1,fun j x u hx hu=>hrep x u (h.2.2 j x u hx hu)⟩
  refine ⟨?_,hrep⟩
  exact {
    os:=hM.os
    tape:=hM.tape
    output:=hM.output
    size:=by rw [hsz]; exact Nat.le_succ_of_le hM.size
    block:=fun k hk hn=>(hblk k (Nat.lt_of_lt_of_le hk hM.size)).trans (hM.block k hk hn)
    grow:=hM.grow
    old:=hM.old
    bound:=fun b i h=>by rw [hsz]; exact Nat.lt_succ_of_lt (hM.bound b i h)
    pre:=fun i g h=>hgs i g (hM.pre i g h)
    boxn:=by simp [hM.boxn]
    boxes:=fun i g cs hg hc=>by
      rcases hinv i g hg with hg | ⟨rfl,rfl⟩
      · have hi : i < s.b.length := by rw [← hM.boxn]; exact (List.getElem?_eq_some_iff.1 hg).1
        rw [List.getElem?_append_left hi] at hc
        obtain ⟨us',t,hh,hr'⟩:=hM.boxes i g cs hg hc
        exact ⟨us',t,(hblk g (hlt i g hg)).trans hh,hreps _ _ hr'⟩
      · rw [hM.boxn, List.getElem?_append_right (Nat.le_refl _), Nat.sub_self] at hc
        simp at hc
        subst hc
        exact ⟨us,ty,hnew,hreps _ _ hr⟩
    fresh:=fun i g hg=>by
      rcases hinv i g hg with hg | ⟨rfl,rfl⟩
      · exact hM.fresh i g hg
      · exact ⟨fun o h=>Nat.lt_irrefl _ (hM.bound _ o h),.inl hM.size⟩
    inj:=fun i j g h1 h2=>by
      rcases hinv i g h1 with h1 | ⟨rfl,rfl⟩ <;> rcases hinv j _ h2 with h2 | ⟨rfl,e⟩
      · exact hM.inj i j g h1 h2
      · exact absurd (hlt i g h1) (by omega)
      · exact absurd (hlt j _ h2) (Nat.lt_irrefl _)
      · rfl
    rown:=hM.rown
    rows:=fun r v n e size hv hn=>by
      obtain ⟨h0,us',ho,hF⟩:=hM.rows r v n e size hv hn
      exact ⟨h0,us',ho.alloc _,hF⟩
    rinj:=hM.rinj
    rbox:=fun r i v g hv hg h=>by
      rcases hinv i g h with h | ⟨rfl,rfl⟩
      · exact hM.rbox r i v g hv hg h
      · have hr : r < s.h.length := by rw [← hM.rown]; exact (List.getElem?_eq_some_iff.1 hv).1
        obtain ⟨h0,us',ho,hF⟩:=hM.rows r v _ _ _ hv (List.getElem?_eq_getElem hr)
        exact absurd (ho.lt _ hg).2 (Nat.lt_irrefl _) }
theorem Inv.mem {E':Env} {s':St} {w':World} (hI:Inv C E s a w) (hM:Mem C E' s' w') (hn:s'.n=s.n) (ht:s'.t=s.t) (hr:∀ x u,RepT E s.h w x u→RepT E' s'.h w' x u):Inv C E' s' a w' :=
  { hM with
    defers:=hI.defers
    tsz:=(by rw [hn]; exact hI.tsz)
    temps:=(fun d x hd=>by
      rw [ht] at hd
      obtain ⟨u,h1,h2⟩:=hI.temps d x hd
      exact ⟨u,h1,hr x u h2⟩) }
theorem aops_box {ops : Array Oper} {o : Oper} {rest : List Oper} {d : Nat} {ty : TypeId} {y : Operand} {x : AV} {cells : List AV} (ho : o.op = .box ty y) (hy : ev s.t y = some x) (hx : cellsAV x = some cells) (hg : o.guard = none) (hd : o.dst = some d) (hn : Nat.blt d s.n = true)
    (h:AOps P ops rest Q { s with t:=(d,.ptr s.b.length 0) :: s.t,b:=s.b ++ [cells] }):AOps P ops (o :: rest) Q s:=fun C E a w hI =>
  wpList_plain hg fun K hK=>by
    have hc:=cellsAV_rep (hI.ev hy) hx
    obtain ⟨hM,hr⟩:=hI.toMem.box hc ty
    have hI':=hI.mem hM rfl rfl hr
    have hp:RepT { E with gs:=E.gs ++ [some w.heap.size] } s.h (w.alloc (.cells ((a.eval y).cells.toList.toArray) ty (0,0))) (.ptr s.b.length 0) (.pointer (some ⟨w.heap.size,0,none⟩)) :=
      ⟨.ptr _ _ _ (by rw [← hI.boxn,List.getElem?_append_right (Nat.le_refl _),Nat.sub_self]; rfl),by intro _ _ e; cases e⟩
    have hrun:(execOp a.eval o).run P w=.ok (.value (.pointer (some ⟨w.heap.size,0,none⟩))) (w.alloc (.cells ((a.eval y).cells.toList.toArray) ty (0,0))):=by
      simp [execOp,ho,Instr.box,newVar,newRow,Sem.run_bind]
    unfold Oper.wp
    rw [hrun,Oper.upon_value,hd]
    exact hK _ _ (h C _ _ _ (hI'.put (Nat.le_of_ble_eq_true hn) hp))
def zrK (P:Program) (t:TypeId):Option (List AV):=match P.info? t with | some i=>(match i.zero with | some z=>constsAV z.cells.toList | none=>none) | none=>none
class Zr (P : Program) (t : TypeId) (cells : outParam (List AV)) : Prop where
  out:zrK P t=some cells
theorem aops_alloc {ops : Array Oper} {o : Oper} {rest : List Oper} {d : Nat} {ty : TypeId} {cells : List AV} (ho : o.op = .alloc ty) [hz : Zr P ty cells] (hg : o.guard = none) (hd : o.dst = some d) (hn : Nat.blt d s.n = true)
    (h:AOps P ops rest Q { s with t:=(d,.ptr s.b.length 0) :: s.t,b:=s.b ++ [cells] }):AOps P ops (o :: rest) Q s:=fun C E a w hI =>
  wpList_plain hg fun K hK=>by
    have hzz:=hz.out
    unfold zrK at hzz
    split at hzz
    · rename_i i hi
      split at hzz
      · rename_i z hiz
        have hc:RepTs E s.h w cells z.cells.toList:=by
          have h1:=reps_const (F:=E.F) (gs:=E.gs) (w:=w) hzz
          refine ⟨h1.1,constsAV_flat hzz,fun j x u hx hu=>⟨h1.2 j x u hx hu,fun c r e=>?_⟩⟩
          have:∀ (vs:List Value) (xs:List AV),constsAV vs=some xs→∀ x ∈ xs,∀ c r,x ≠ .row c (.own r):=by
            intro vs
            induction vs with
            | nil=>intro xs h x hx; simp only [constsAV,Option.some.injEq] at h; subst h; cases hx
            | cons v vs ih =>
              intro xs h x hx
              simp only [constsAV] at h
              split at h
              · rename_i y ys hy hys
                simp only [Option.some.injEq] at h
                subst h
                rcases List.mem_cons.1 hx with rfl | hx
                · exact (rep_const (F:=E.F) (gs:=E.gs) (w:=w) hy).2
                · exact ih ys hys x hx
              · cases h
          exact absurd e (this _ _ hzz x (List.mem_of_getElem? hx) c r)
        obtain ⟨hM,hr⟩:=hI.toMem.box hc ty
        have hI':=hI.mem hM rfl rfl hr
        have hp:RepT { E with gs:=E.gs ++ [some w.heap.size] } s.h (w.alloc (.cells (z.cells.toList.toArray) ty (0,0))) (.ptr s.b.length 0) (.pointer (some ⟨w.heap.size,0,none⟩)) :=
          ⟨.ptr _ _ _ (by rw [← hI.boxn,List.getElem?_append_right (Nat.le_refl _),Nat.sub_self]; rfl),by intro _ _ e; cases e⟩
        have hrun:(execOp a.eval o).run P w=.ok (.value (.pointer (some ⟨w.heap.size,0,none⟩))) (w.alloc (.cells (z.cells.toList.toArray) ty (0,0))):=by
          simp [execOp,ho,Instr.alloc,zeroValue,typeInfo,hi,hiz,newVar,newRow,Sem.run_bind]
        unfold Oper.wp
        rw [hrun,Oper.upon_value,hd]
        exact hK _ _ (h C _ _ _ (hI'.put (Nat.le_of_ble_eq_true hn) hp))
      · cases hzz
    · cases hzz
theorem Mem.store (hM:Mem C E s w) {i g off:Nat} {cells cs:List AV} {vs:List Value} (hg:E.gs[i]?=some (some g)) (hb:s.b[i]?=some cells) (hle:off + cs.length≤cells.length) (hr:RepTs E s.h w cs vs) :
    Mem C E { s with b:=s.b.set i (spl cells off cs) } (w.setCells g off vs)∧(∀ x u,RepT E s.h w x u→RepT E s.h (w.setCells g off vs) x u):=by
  obtain ⟨us,ty,hh,hrs⟩:=hM.boxes i g cells hg hb
  have hgl:g<w.heap.size:=(Array.getElem?_eq_some_iff.1 hh).1
  have hsz:(w.setCells g off vs).heap.size=w.heap.size:=setCells_size g vs off w
  have hblk:∀ k,k<w.heap.size→k ≠ g→(w.setCells g off vs).heap[k]?=w.heap[k]?:=fun k hk hne=>World.heap_setCells_other w g off vs hk hne
  have hnew:=setCells_heap (w:=w) vs off us w hh (by rw [hr.1,hrs.1]; exact hle)
  have hFg:∀ o,¬ E.F g o:=(hM.fresh i g hg).1
  have hrep:∀ x u,RepT E s.h w x u→RepT E s.h (w.setCells g off vs) x u:=fun x u h =>
    ⟨h.1.mono (fun b o hF=>⟨hF,cell_blk (hblk b (hM.bound b o hF) (fun e=>hFg o (e ▸ hF)))⟩) (fun _ _ h=>h),h.2⟩
  have hreps:∀ cells us',RepTs E s.h w cells us'→RepTs E s.h (w.setCells g off vs) cells us':=fun cells us' h=>⟨h.1,h.2.1,fun j x u hx hu=>hrep x u (h.2.2 j x u hx hu)⟩
  refine ⟨?_,hrep⟩
  exact {
    os:=(World.os_setCells w g off vs).trans hM.os
    tape:=(setCells_tape g vs off w).trans hM.tape
    output:=(World.output_setCells w g off vs).trans hM.output
    size:=by rw [hsz]; exact hM.size
    block:=fun k hk hn=>by
      have hne:k ≠ g:=fun e=>by
        rcases (hM.fresh i g hg).2 with h | h
        · omega
        · exact hn (e ▸ h)
      exact (hblk k (Nat.lt_of_lt_of_le hk hM.size) hne).trans (hM.block k hk hn)
    grow:=hM.grow
    old:=hM.old
    bound:=fun b o h=>by rw [hsz]; exact hM.bound b o h
    pre:=hM.pre
    boxn:=by simp [hM.boxn]
    boxes:=fun j g' cs' hg' hc=>by
      by_cases e:j=i
      · subst e
        obtain rfl:g'=g:=by rw [hg] at hg'; injection hg' with h; injection h with h; exact h.symm
        have hjl:j<s.b.length:=(List.getElem?_eq_some_iff.1 hb).1
        rw [List.getElem?_set_self hjl] at hc
        injection hc with hc
        subst hc
        refine ⟨spl us off vs,ty,hnew,?_,?_,?_⟩
        · rw [spl_len _ _ _ (by rw [hr.1,hrs.1]; exact hle),spl_len _ _ _ hle,hrs.1]
        · intro x hx
          simp only [spl,List.mem_append] at hx
          rcases hx with (hx | hx) | hx
          · exact hrs.2.1 x (List.mem_of_mem_take hx)
          · exact hr.2.1 x hx
          · exact hrs.2.1 x (List.mem_of_mem_drop hx)
        · intro q x u hx hu
          rw [spl_at _ _ _ hle] at hx
          rw [spl_at _ _ _ (by rw [hr.1,hrs.1]; exact hle),hr.1] at hu
          split at hx
          · rename_i hq
            rw [if_pos hq] at hu
            exact hrep x u (hr.2.2 _ x u hx hu)
          · rename_i hq
            rw [if_neg hq] at hu
            exact hrep x u (hrs.2.2 _ x u hx hu)
      · rw [List.getElem?_set_ne (fun h => e h.symm)] at hc
        obtain ⟨us',t',hh',hr'⟩:=hM.boxes j g' cs' hg' hc
        have hne:g' ≠ g:=fun h=>e (hM.inj j i g (h ▸ hg') hg)
        exact ⟨us',t',(hblk g' (Array.getElem?_eq_some_iff.1 hh').1 hne).trans hh',hreps _ _ hr'⟩
    fresh:=hM.fresh
    inj:=hM.inj
    rown:=hM.rown
    rows:=fun r v n e size hv hn=>by
      obtain ⟨h0,us',ho,hF⟩:=hM.rows r v n e size hv hn
      refine ⟨h0,us',ho.kept (row:=some g) ⟨World.os_setCells w g off vs,setCells_tape g vs off w,World.output_setCells w g off vs,by rw [hsz]; exact Nat.le_refl _,fun k hk hne=>hblk k hk (fun e=>hne (by rw [e]))⟩ ?_,hF⟩
      cases hb:v.ownBlock with
      | none=>exact .inl rfl
      | some k=>exact .inr (fun e=>hM.rbox r i v k hv hb (by injection e with e; rw [e]; exact hg))
    rinj:=hM.rinj
    rbox:=hM.rbox }
theorem aops_store {ops : Array Oper} {o : Oper} {rest : List Oper} {ty : TypeId} {y z : Operand} {i off : Nat} {k : TyK} {cells cs : List AV} {x : AV} (ho : o.op = .store ty y z) (hy : ev s.t y = some (.ptr i off)) (hb : s.b[i]? = some cells) (hz : ev s.t z = some x) (hx : cellsAV x = some cs) [hT : Ty P ty k]
    (hl:cs.length=tyN k) (hle:Nat.ble (off + cs.length) cells.length=true) (hg:o.guard=none) (hd:o.dst=none) (h:AOps P ops rest Q { s with b:=s.b.set i (spl cells off cs) }):AOps P ops (o :: rest) Q s:=fun C E a w hI =>
  wpList_plain hg fun K hK=>by
    have hle:=Nat.le_of_ble_eq_true hle
    have hc:=cellsAV_rep (hI.ev hz) hx
    have h1:=(hI.ev hy).1
    generalize hu:a.eval y=u at h1
    cases h1 with
    | ptr _ _ g hgs =>
      obtain ⟨us,tb,hh,hrs⟩:=hI.boxes i g cells hgs hb
      have hcell:∀ j,w.cell? ⟨g,j,none⟩=us[j]?:=fun j=>by rw [World.cell?,hh]; simp
      obtain ⟨hM,hr⟩:=hI.toMem.store hgs hb hle hc
      have hrun:(execOp a.eval o).run P w=.ok .skip (w.setCells g off (a.eval z).cells.toList):=by
        simp only [execOp,ho,hu]
        rw [Sem.run_bind,run_storeN hT.out (by rw [hc.1]; exact hl) (fun j hj=>by
          rw [hcell,List.getElem?_eq_getElem (by rw [hrs.1]; omega)]; rfl) (fun j hj=>by simp [World.frozen?,hh]) hc.one]
        rfl
      unfold Oper.wp
      rw [hrun,Oper.upon_skip,hd]
      exact hK _ _ (h C E a _ (hI.mem hM rfl rfl hr))
end
theorem flat_len {α : Type} {sz : Nat} : ∀ {elems : List (List α)}, (∀ e ∈ elems, e.length = sz) → elems.flatten.length = elems.length * sz
  | [],_=>by simp
  | e :: r,h=>by
    rw [List.flatten_cons,List.length_append,h e (by simp),flat_len (fun x hx=>h x (by simp [hx])),List.length_cons,Nat.succ_mul,Nat.add_comm]
theorem flat_get {α : Type} {sz : Nat} : ∀ {elems : List (List α)}, (∀ e ∈ elems, e.length = sz) → ∀ (i : Nat) (e : List α), elems[i]? = some e → ∀ j, j < sz → elems.flatten[i * sz + j]? = e[j]?
  | [],_,i,e,he,_,_=>by simp at he
  | a :: r,h,0,e,he,j,hj=>by
    simp at he; subst he
    rw [List.flatten_cons,Nat.zero_mul,Nat.zero_add,List.getElem?_append_left (by rw [h a (by simp)]; exact hj)]
  | a :: r,h,i + 1,e,he,j,hj=>by
    have ha:=h a (by simp)
    rw [List.flatten_cons,List.getElem?_append_right (by rw [ha,Nat.succ_mul]; omega),ha,show (i + 1)*sz + j - sz=i*sz + j by rw [Nat.succ_mul]; omega]
    exact flat_get (fun x hx=>h x (by simp [hx])) i e (by simpa using he) j hj
def slAK (P:Program) (t e:TypeId) (sz bytes:Nat):Bool :=
  (match P.underlying t with | some (.slice e')=>e' == e | _=>false) &&
  (match P.info? e with | some i=>i.size == sz && i.bytes == bytes && Nat.blt 0 sz && (match i.zero with | some z=>z.cells.size == sz | none=>false) | none=>false)
class SlA (P : Program) (t : TypeId) (e : outParam TypeId) (sz : outParam Nat) (bytes : outParam Nat) : Prop where
  out:slAK P t e sz bytes=true
structure SlFacts (P : Program) (t e : TypeId) (sz bytes : Nat) (i : TypeInfo) (z : Value) : Prop where
  und:P.underlying t=some (.slice e)
  info:P.info? e=some i
  zero:i.zero=some z
  size:i.size=sz
  by_:i.bytes=bytes
  zs:z.cells.size=sz
  pos:0<sz
theorem slA_facts {P:Program} {t e:TypeId} {sz bytes:Nat} (h:slAK P t e sz bytes=true):∃ i z,SlFacts P t e sz bytes i z:=by
  unfold slAK at h
  rw [Bool.and_eq_true] at h
  obtain ⟨h1,h2⟩:=h
  split at h1
  · rename_i e' hu
    have he:e'=e:=by simpa using h1
    subst he
    split at h2
    · rename_i i hi
      simp only [Bool.and_eq_true,beq_iff_eq] at h2
      obtain ⟨⟨⟨h3,h4⟩,h5⟩,h6⟩:=h2
      split at h6
      · rename_i z hz
        exact ⟨i,z,hu,hi,hz,h3,h4,by simpa using h6,Nat.le_of_ble_eq_true h5⟩
      · cases h6
    · cases h2
  · cases h1
class StrT (P : Program) (t : TypeId) : Prop where
  out:(match P.underlying t with | some .string=>true | _=>false)=true
section
variable {P:Program} {Q:Exit→St→Prop} {s:St}
theorem rep_row_len {F:Nat→Nat→Prop} {gs:List (Option Nat)} {w:World} {elems:List (List AV)} {tag:Tag} {u:Value} (h:Rep F gs w (.row elems tag) u):∃ A c,u=.slice A elems.length c∧elems.length≤c:=by
  cases h with
  | nil=>exact ⟨none,0,rfl,Nat.le_refl _⟩
  | empty A c tag ht=>exact ⟨A,c,rfl,Nat.zero_le _⟩
  | row g o c sz elems us tag ht h0 hsz hl hn hm ha hf hr=>exact ⟨_,c,rfl,hn⟩
theorem step_len_row {o:Oper} {t:List (Nat × AV)} {b:List (List AV)} {y:Operand} {tt:TypeId} {e:TypeId} {sz bytes:Nat} {elems:List (List AV)} {tag:Tag} (ho:o.op=.call { callee:=.builtin .len,args:=#[y],argTypes:=#[tt] }) [hT:SlA P tt e sz bytes] (hy:ev t y=some (.row elems tag)):Step P o t b (.val (.int .i64 elems.length)):=step_value fun C E s a w hI hbe ht=>by
  obtain ⟨A,c,hu,_⟩:=rep_row_len (hI.ev (ev_sub ht hy)).1
  obtain ⟨inf,zz,hF⟩:=slA_facts hT.out
  have hun:=run_underlying hF.und w
  refine ⟨.int .i64 elems.length,?_,.val _ rfl,by intro _ _ e; cases e⟩
  generalize a.eval=ρ at hu ⊢
  unfold execOp
  simp [ho,resolve,invoke,hu,Builtin.len_,hun,go_sem]
theorem step_len_str {o:Oper} {t:List (Nat × AV)} {b:List (List AV)} {y:Operand} {tt:TypeId} {x:ByteArray} (ho:o.op=.call { callee:=.builtin .len,args:=#[y],argTypes:=#[tt] }) [hT:StrT P tt] (hy:ev t y=some (.val (.string x))):Step P o t b (.val (.int .i64 x.size)):=step_value fun C E s a w hI hbe ht=>by
  have hu:=(rep_val (hI.ev (ev_sub ht hy)).1).1
  have hun:(underlying tt).run P w=.ok .string w:=by
    have h:=hT.out
    split at h
    · exact run_underlying (by assumption) w
    · cases h
  refine ⟨.int .i64 x.size,?_,.val _ rfl,by intro _ _ e; cases e⟩
  generalize a.eval=ρ at hu ⊢
  unfold execOp
  simp [ho,resolve,invoke,hu,Builtin.len_,hun,go_sem]
theorem rep_elem {F:Nat→Nat→Prop} {gs:List (Option Nat)} {w:World} {elems:List (List AV)} {tag:Tag} {u:Value} (h:Rep F gs w (.row elems tag) u) {i sz:Nat} {cs:List AV} (he:elems[i]?=some cs) (hcs:cs.length=sz) :
    ∃ g o c,u=.slice (some ⟨g,o,none⟩) elems.length c∧Rep F gs w (.ref cs) (.pointer (some ⟨g,o + i*sz,none⟩)):=by
  cases h with
  | nil=>simp at he
  | empty A c tag ht=>simp at he
  | row g o c sz' elems us tag ht h0 hsz hl hn hm ha hf hr =>
    obtain rfl:sz'=sz:=by rw [← hcs]; exact (hsz cs (List.mem_of_getElem? he)).symm
    have hi:i<elems.length:=(List.getElem?_eq_some_iff.1 he).1
    have hfl:=flat_len hsz
    have hb:i*sz' + sz'≤elems.length*sz':=by rw [← Nat.succ_mul]; exact Nat.mul_le_mul_right _ hi
    refine ⟨g,o,c,rfl,.ref g (o + i*sz') cs ((us.drop (i*sz')).take sz') (by simp [hl,hfl,hcs]; omega) (fun j u hj=>?_) (fun x hx=>hf x (List.mem_flatten.2 ⟨cs,List.mem_of_getElem? he,hx⟩)) (fun j x u hx hu=>?_)⟩
    · rw [List.getElem?_take] at hj
      split at hj
      · rw [List.getElem?_drop] at hj
        rw [Nat.add_assoc]
        exact ha _ _ hj
      · cases hj
    · rw [List.getElem?_take] at hu
      split at hu
      · rename_i hj
        rw [List.getElem?_drop] at hu
        exact hr _ x u (by rw [flat_get hsz i cs he j hj]; exact hx) hu
      · cases hu
theorem step_index {o : Oper} {t : List (Nat × AV)} {b : List (List AV)} {ty : TypeId} {y z : Operand} {k : IntKind} {i : Int} {e : TypeId} {sz bytes : Nat} {elems : List (List AV)} {tag : Tag} {cs : List AV} (ho : o.op = .indexAddr ty y z) (hy : ev t y = some (.row elems tag)) (hz : ev t z = some (.val (.int k i))) [hT : SlA P ty e sz bytes]
    (h0:0≤i) (he:elems[i.toNat]?=some cs) (hcs:cs.length=sz):Step P o t b (.ref cs):=step_value fun C E s a w hI hbe ht=>by
  have hzz:=(rep_val (hI.ev (ev_sub ht hz)).1).1
  obtain ⟨inf,zz,hF⟩:=slA_facts hT.out
  obtain ⟨g,off,c,hu,hr⟩:=rep_elem (hI.ev (ev_sub ht hy)).1 he hcs
  have hlt:i.toNat<elems.length:=(List.getElem?_eq_some_iff.1 he).1
  refine ⟨_,?_,hr,by intro _ _ e; cases e⟩
  have hlt2:i<(elems.length:Int):=by omega
  generalize a.eval=ρ at hu hzz ⊢
  unfold execOp
  simp [ho,hu,hzz,Instr.indexAt,run_underlying hF.und,sizeOf,typeInfo,hF.info,hF.size,h0,hlt2,Addr.add_mid,go_sem]
def evI (t : List (Nat × AV)) (d : Int) : Option Operand → Option Int
  | none=>some d
  | some y=>match ev t y with | some (.val (.int _ i))=>some i | _=>none
theorem evI_some {C:Ctx} {E:Env} {a:Act} {w:World} (hI:Inv C E s a w) {t:List (Nat × AV)} (ht:Sub t s.t) {d:Int} {y:Operand} {i:Int} (h:evI t d (some y)=some i):∃ k,a.eval y=.int k i:=by
  unfold evI at h
  simp only at h
  split at h
  · rename_i k j hy
    injection h with h
    subst h
    exact ⟨k,(rep_val (hI.ev (ev_sub ht hy)).1).1⟩
  · cases h
end
def putAt {α:Type} (l:List α) (r:Nat) (x:α):List α:=if r<l.length then l.set r x else l ++ [x]
theorem putAt_len {α:Type} (l:List α) (r:Nat) (x:α) (h:r≤l.length):(putAt l r x).length=max l.length (r + 1):=by
  unfold putAt; split <;> simp <;> omega
theorem putAt_self {α:Type} (l:List α) (r:Nat) (x:α) (h:r≤l.length):(putAt l r x)[r]?=some x:=by
  unfold putAt
  split
  · rw [List.getElem?_set_self (by assumption)]
  · have : r = l.length := by omega
    subst this; simp
theorem putAt_ne {α:Type} (l:List α) (r i:Nat) (x:α) (h:r≤l.length) (hne:i ≠ r):(putAt l r x)[i]?=l[i]?:=by
  unfold putAt
  split
  · rw [List.getElem?_set_ne (fun e=>hne e.symm)]
  · have : r = l.length := by omega
    subst this
    by_cases hi:i<l.length
    · rw [List.getElem?_append_left hi]
    · rw [List.getElem?_eq_none (l:=l ++ [x]) (by simp; omega),List.getElem?_eq_none (by omega)]
theorem own_move_ {w w1:World} {base:Nat} {e:TypeId} {size n:Nat} {v:Value} {xs:List Value} (h:w.ownsRow base e size v n xs) (hm:∀ k,v.ownBlock=some k→w1.heap[k]?=w.heap[k]?):w1.ownsRow base e size v n xs:=by
  obtain ⟨h1,h2⟩:=h
  refine ⟨h1,?_⟩
  rcases h2 with h2 | ⟨g,cap,cur,rfl,hg,hh,r⟩
  · exact .inl h2
  · exact .inr ⟨g,cap,cur,rfl,hg,(hm g (by simp [Value.ownBlock])).trans hh,r⟩
section
variable {P:Program} {Q:Exit→St→Prop} {s:St} {C:Ctx} {E:Env} {a:Act} {w:World}
theorem Mem.row (hM : Mem C E s w) {w' : World} {r n' e size : Nat} {v' : Value} {us' : List Value} (hr : r ≤ s.h.length)
    (hos:w'.os=w.os) (htape:w'.tape=w.tape) (hout:w'.output=w.output) (hsize:w.heap.size≤w'.heap.size)
    (hblk:∀ k,k<w.heap.size→some k ≠ v'.ownBlock→w'.heap[k]?=w.heap[k]?)
    (hcell:∀ b i,E.F b i→w'.cell? ⟨b,i,none⟩=w.cell? ⟨b,i,none⟩)
    (hsz:0<size) (hown:w'.ownsRow C.w0.heap.size e size v' n' us')
    (hold:∀ g,v'.ownBlock=some g→w.heap.size≤g ∨ ∃ v,E.rs[r]?=some v∧v.ownBlock=some g)
    (hF:∀ g o,v'.ownBlock=some g→E.F g o→o<us'.length)
    (hprev:∀ n e0 s0,s.h[r]?=some (n,e0,s0)→n≤n'∧(n=n'→E.rs[r]?=some v')) :
    Mem C { E with F:=fun b i=>E.F b i ∨ (v'.ownBlock=some b∧i<us'.length),rs:=putAt E.rs r v' } { s with h:=putAt s.h r (n',e,size) } w' ∧
    (∀ x u,RepT E s.h w x u→RepT { E with F:=fun b i=>E.F b i ∨ (v'.ownBlock=some b∧i<us'.length),rs:=putAt E.rs r v' } (putAt s.h r (n',e,size)) w' x u):=by
  have hrs:r≤E.rs.length:=by rw [hM.rown]; exact hr
  have hrep:∀ x u,RepT E s.h w x u→RepT { E with F:=fun b i=>E.F b i ∨ (v'.ownBlock=some b∧i<us'.length),rs:=putAt E.rs r v' } (putAt s.h r (n',e,size)) w' x u:=fun x u h=>by
    refine ⟨h.1.mono (fun b i hb=>⟨.inl hb,hcell b i hb⟩) (fun _ _ h=>h),fun elems r' hx=>?_⟩
    obtain ⟨m,e1,s1,h1,h2,h3⟩:=h.2 elems r' hx
    by_cases er:r'=r
    · subst er
      obtain ⟨h4,h5⟩:=hprev m e1 s1 h1
      refine ⟨n',e,size,putAt_self _ _ _ hr,Nat.le_trans h2 h4,fun h6=>?_⟩
      have h7:m=n':=by omega
      rw [putAt_self _ _ _ hrs]
      have h8:=h5 h7
      rw [h3 (by omega)] at h8
      exact h8.symm
    · exact ⟨m,e1,s1,by rw [putAt_ne _ _ _ _ hr er]; exact h1,h2,fun h6=>by rw [putAt_ne _ _ _ _ hrs er]; exact h3 h6⟩
  have hbox:∀ (i g:Nat),E.gs[i]?=some (some g)→g<w.heap.size∧some g ≠ v'.ownBlock:=fun i g hg=>by
    have hi:i<s.b.length:=by rw [← hM.boxn]; exact (List.getElem?_eq_some_iff.1 hg).1
    obtain ⟨us,t,hh,_⟩:=hM.boxes i g _ hg (List.getElem?_eq_getElem hi)
    have hlt:=(Array.getElem?_eq_some_iff.1 hh).1
    refine ⟨hlt,fun he=>?_⟩
    rcases hold g he.symm with h | ⟨v,hv,hvg⟩
    · omega
    · exact hM.rbox r i v g hv hvg hg
  have hrow:∀ (r':Nat) (v:Value) (g:Nat),r' ≠ r→E.rs[r']?=some v→v.ownBlock=some g→g<w.heap.size∧some g ≠ v'.ownBlock:=fun r' v g hne hv hg=>by
    have hr:r'<s.h.length:=by rw [← hM.rown]; exact (List.getElem?_eq_some_iff.1 hv).1
    obtain ⟨h0,us0,ho,_⟩:=hM.rows r' v _ _ _ hv (List.getElem?_eq_getElem hr)
    have hlt:=(ho.lt _ hg).2
    refine ⟨hlt,fun he=>?_⟩
    rcases hold g he.symm with h | ⟨v2,hv2,hvg⟩
    · omega
    · exact hne (hM.rinj r' r v v2 g hv hv2 hg hvg)
  refine ⟨?_,hrep⟩
  exact {
    os:=hos.trans hM.os
    tape:=htape.trans hM.tape
    output:=hout.trans hM.output
    size:=Nat.le_trans hM.size hsize
    block:=fun k hk hn=>by
      refine (hblk k (Nat.lt_of_lt_of_le hk hM.size) (fun he=>?_)).trans (hM.block k hk hn)
      have:=(hown.lt k he.symm).1
      omega
    grow:=fun b i h=>.inl (hM.grow b i h)
    old:=fun b i h hb=>by
      rcases h with h | ⟨h,_⟩
      · exact hM.old b i h hb
      · have := (hown.lt b h).1
        omega
    bound:=fun b i h=>by
      rcases h with h | ⟨h,_⟩
      · exact Nat.lt_of_lt_of_le (hM.bound b i h) hsize
      · exact (hown.lt b h).2
    pre:=hM.pre
    boxn:=hM.boxn
    boxes:=fun i g cs hg hc=>by
      obtain ⟨us,t,hh,h1,h2,h3⟩:=hM.boxes i g cs hg hc
      exact ⟨us,t,(hblk g (hbox i g hg).1 (hbox i g hg).2).trans hh,h1,h2,fun j x u hx hu=>hrep x u (h3 j x u hx hu)⟩
    fresh:=fun i g hg=>by
      refine ⟨fun o h=>?_,(hM.fresh i g hg).2⟩
      rcases h with h | ⟨h,_⟩
      · exact (hM.fresh i g hg).1 o h
      · exact (hbox i g hg).2 h.symm
    inj:=hM.inj
    rown:=by show (putAt E.rs r v').length=(putAt s.h r _).length; rw [putAt_len _ _ _ hrs,putAt_len _ _ _ hr,hM.rown]
    rows:=fun r' v n e' size' hv hn=>by
      by_cases er:r'=r
      · subst er
        rw [putAt_self _ _ _ hrs] at hv
        rw [putAt_self _ _ _ hr] at hn
        injection hv with hv
        injection hn with hn
        injection hn with h1 h2
        injection h2 with h2 h3
        subst hv; subst h1; subst h2; subst h3
        refine ⟨hsz,us',hown,fun g o hg h=>?_⟩
        rcases h with h | ⟨_,h⟩
        · exact hF g o hg h
        · exact h
      · rw [putAt_ne _ _ _ _ hrs er] at hv
        rw [putAt_ne _ _ _ _ hr er] at hn
        obtain ⟨h0,us0,ho,h1⟩:=hM.rows r' v n e' size' hv hn
        refine ⟨h0,us0,own_move_ ho (fun k hk=>hblk k (hrow r' v k er hv hk).1 (hrow r' v k er hv hk).2),fun g o hg h=>?_⟩
        rcases h with h | ⟨h,_⟩
        · exact h1 g o hg h
        · exact absurd h.symm (hrow r' v g er hv hg).2
    rinj:=fun r1 r2 v1 v2 g h1 h2 h3 h4=>by
      by_cases e1:r1=r
      · by_cases e2 : r2 = r
        · rw [e1,e2]
        · subst e1
          rw [putAt_self _ _ _ hrs] at h1
          rw [putAt_ne _ _ _ _ hrs e2] at h2
          injection h1 with h1
          subst h1
          exact absurd h3.symm (hrow r2 v2 g e2 h2 h4).2
      · rw [putAt_ne _ _ _ _ hrs e1] at h1
        by_cases e2:r2=r
        · subst e2
          rw [putAt_self _ _ _ hrs] at h2
          injection h2 with h2
          subst h2
          exact absurd h4.symm (hrow r1 v1 g e1 h1 h3).2
        · rw [putAt_ne _ _ _ _ hrs e2] at h2
          exact hM.rinj r1 r2 v1 v2 g h1 h2 h3 h4
    rbox:=fun r' i v g hv hg=>by
      by_cases er:r'=r
      · subst er
        rw [putAt_self _ _ _ hrs] at hv
        injection hv with hv
        subst hv
        exact fun h=>(hbox i g h).2 hg.symm
      · rw [putAt_ne _ _ _ _ hrs er] at hv
        exact hM.rbox r' i v g hv hg }
theorem app_run {base : Nat} {t ty e : TypeId} {sz bytes : Nat} {i : TypeInfo} {z : Value} (hT : SlFacts P t e sz bytes i z) {v : Value} {n : Nat} {xs : List Value} (hown : w.ownsRow base e sz v n xs)
    {x:Value} {A:Option Addr} {m c:Nat} {news:List Value} (hx:x=.slice A m c) (hl:news.length=m*sz) (hnews:0<m→∃ ad,A=some ad∧∀ j u,news[j]?=some u→w.cell? (ad.add j)=some u) (h1:∀ u ∈ news,u.oneCell'=true)
    (h63:n + m≤maxLen) (hbytes:(n + m)*bytes≤140737488355328) (hbase:base≤w.heap.size) :
    ∃ v' w', (Builtin.append_ #[t, t] ty #[v, x]).run P w = .ok v' w' ∧ w'.ownsRow base e sz v' (n + m) (xs ++ news) ∧ w'.os = w.os ∧ w'.tape = w.tape ∧ w'.output = w.output ∧ w.heap.size ≤ w'.heap.size ∧
      (∀ k,k<w.heap.size→some k ≠ v'.ownBlock→w'.heap[k]?=w.heap[k]?)∧(∀ g,v'.ownBlock=some g→w.heap.size≤g ∨ v.ownBlock=some g) ∧
      (∀ g j,v.ownBlock=some g→j<xs.length→w'.cell? ⟨g,j,none⟩=w.cell? ⟨g,j,none⟩)∧(m=0→v'=v):=by
  subst hx
  have hxl:=hown.1
  rcases Nat.eq_zero_or_pos m with rfl | hm
  · have hn : news = [] := List.eq_nil_of_length_eq_zero (by simpa using hl)
    subst hn
    have hvs:∃ B cap,v=.slice B n cap∧n≤cap:=by
      rcases hown.2 with ⟨rfl,rfl⟩ | ⟨g,cap,cur,rfl,_,_,hc,_⟩
      · exact ⟨none,0,rfl,Nat.le_refl _⟩
      · exact ⟨_,cap,rfl,hc⟩
    obtain ⟨B,cap,hv,hc⟩:=hvs
    have hfirst:(Builtin.firstCells sz 0 (.slice A 0 c)).run P w=.ok #[] w:=by
      cases A <;> simp [Builtin.firstCells,loadCells,loadCellsFrom]
    have hrun:(Builtin.append_ #[t,t] ty #[v,.slice A 0 c]).run P w=.ok v w:=by
      subst hv
      cases B <;> simp [Builtin.append_,run_underlying hT.und,sizeOf,typeInfo,hT.info,hT.size,Builtin.lenOf,hc,hfirst,storeCells]
    refine ⟨v,w,hrun,by simpa using hown,rfl,rfl,rfl,Nat.le_refl _,fun _ _ _=>rfl,fun g hg=>.inr hg,fun _ _ _ _=>rfl,fun _=>rfl⟩
  · obtain ⟨ad, rfl, hnews'⟩ := hnews hm
    clear hnews
    have hnews:=hnews'
    clear hnews'
    have hadd:∀ g j,(⟨g,0,none⟩:Addr).add j=⟨g,j,none⟩:=fun g j=>by rw [Addr.add_mid,Nat.zero_add]
    obtain ⟨v',w',hr,ho,hgr,_⟩:=run_append_own (P:=P) w base t ty e i z sz bytes hT.und hT.info hT.zero hT.size hT.by_ hT.zs hT.pos v n xs hown ad m c news hl hnews h1 h63 hbytes hbase
    have hs63:n + m≤9223372036854775807:=by simp only [maxLen] at h63; omega
    have fin : ∀ cells : Array Value, ∀ nn cc, (Builtin.append_ #[t, t] ty #[v, .slice (some ad) m c]).run P w = .ok (.slice (some ⟨w.heap.size, 0, none⟩) nn cc) (w.drew.alloc (.cells cells e)) →
        ∃ v' w',(Builtin.append_ #[t,t] ty #[v,.slice (some ad) m c]).run P w=.ok v' w'∧w'.ownsRow base e sz v' (n + m) (xs ++ news)∧w'.os=w.os∧w'.tape=w.tape∧w'.output=w.output∧w.heap.size≤w'.heap.size ∧
      (∀ k,k<w.heap.size→some k ≠ v'.ownBlock→w'.heap[k]?=w.heap[k]?)∧(∀ g,v'.ownBlock=some g→w.heap.size≤g ∨ v.ownBlock=some g) ∧
      (∀ g j,v.ownBlock=some g→j<xs.length→w'.cell? ⟨g,j,none⟩=w.cell? ⟨g,j,none⟩)∧(m=0→v'=v):=by
      intro cells nn cc hrun
      rw [hrun] at hr
      injection hr with hv hw
      subst hv; subst hw
      have hold:∀ k,k<w.heap.size→(w.drew.alloc (.cells cells e)).heap[k]?=w.heap[k]?:=fun k hk=>Below.heap_alloc w.drew _ k hk
      refine ⟨_,_,hrun,ho,hgr.os,hgr.tape,hgr.output,hgr.size,fun k hk _=>hold k hk,fun g hg=>.inl ?_,fun g j hg _=>cell_blk (hold g (hown.lt g hg).2),fun h=>absurd h (by omega)⟩
      simp only [Value.ownBlock,Option.some.injEq] at hg
      omega
    rcases hown.2 with ⟨rfl,rfl⟩ | ⟨g,cap,cur,rfl,hbg,hg,hnc,hcm,hcs,htake⟩
    · have hl' : news.length = m * i.size := by rw [hl, hT.size]
      exact fin _ _ _ (run_append_nil (P:=P) w t ty e i z hT.und hT.info hT.zero ad m c news hl' hnews hm (by omega) (by rw [hT.by_]; rw [Nat.zero_add] at hbytes; omega))
    · by_cases hroom : n + m ≤ cap
      · obtain ⟨w2, hr2, ho2, hg2⟩ := run_append_fits (P := P) w base t ty e i sz hT.und hT.info hT.size g n cap xs hown ad m c news hl hnews h1 hroom
        refine ⟨_,_,hr2,ho2,hg2.os,hg2.tape,hg2.output,hg2.size,fun k hk hne=>hg2.block k hk hne,fun g' hg'=>.inr hg',fun g' j hg' hj=>?_,fun h=>absurd h (by omega)⟩
        simp only [Value.ownBlock,Option.some.injEq] at hg'
        subst hg'
        have hu:xs[j]?=some xs[j]:=List.getElem?_eq_getElem hj
        have h2:=ho2.cells (g:=g) rfl j xs[j] (by rw [List.getElem?_append_left hj]; exact hu)
        have h3:=hown.cells (g:=g) rfl j xs[j] hu
        rw [hadd] at h2 h3
        rw [h2,h3]
      · have holds : ∀ j u, xs[j]? = some u → w.cell? ((⟨g, 0, none⟩ : Addr).add j) = some u := hown.cells (g := g) rfl
        exact fin _ _ _ (run_append_grow (P:=P) w t ty e i z hT.und hT.info hT.zero ⟨g,0,none⟩ n cap xs (by rw [hown.1,hT.size]) holds ad m c news (by rw [hl,hT.size]) hnews (by omega) (by omega) (by rw [hT.by_]; exact growslice_fits (by omega) hbytes))
theorem own_rep {F:Nat→Nat→Prop} {gs:List (Option Nat)} {base e sz n:Nat} {v:Value} {us:List Value} {elems:List (List AV)} {tag:Tag} (hr:Rep F gs w (.row elems tag) v) (ho:w.ownsRow base e sz v n us) (hn:n=elems.length) (hsz:∀ e ∈ elems,e.length=sz) :
    us.length=elems.flatten.length∧(∀ x ∈ elems.flatten,flat x=true)∧(∀ (j:Nat) (x:AV) (u:Value),elems.flatten[j]?=some x→us[j]?=some u→Rep F gs w x u):=by
  have hfl:=flat_len hsz
  have hl0:us.length=elems.flatten.length:=by rw [hfl,ho.1,hn]
  refine ⟨hl0,?_⟩
  cases hr with
  | nil=>exact ⟨by simp,by simp⟩
  | empty A c tag ht=>exact ⟨by simp,by simp⟩
  | row g o c sz' elems us0 tag ht h0 hsz' hl hnc hm ha hf hr =>
    refine ⟨hf,fun j x u hx hu=>?_⟩
    rcases ho.2 with ⟨h,_⟩ | ⟨g',cap,cur,hv,_⟩
    · cases h
    · injection hv with hv1 hv2 hv3
      injection hv1 with hv1
      injection hv1 with hv4 hv5
      subst hv4; subst hv5
      have h2:=ho.cells (g:=g) rfl j u hu
      have hj:j<us0.length:=by rw [hl]; exact (List.getElem?_eq_some_iff.1 hx).1
      have h3:=(ha j us0[j] (List.getElem?_eq_getElem hj)).1
      rw [Addr.add_mid] at h2
      rw [h2] at h3
      injection h3 with h3
      exact hr j x u hx (by rw [h3]; exact List.getElem?_eq_getElem hj)
theorem rep_news {F:Nat→Nat→Prop} {gs:List (Option Nat)} {elems:List (List AV)} {tag:Tag} {u:Value} {sz:Nat} (hr:Rep F gs w (.row elems tag) u) (hsz:∀ e ∈ elems,e.length=sz) :
    ∃ (A : Option Addr) (c : Nat) (news : List Value), u = .slice A elems.length c ∧ news.length = elems.length * sz ∧ (0 < elems.length → ∃ ad, A = some ad ∧ ∀ j v, news[j]? = some v → w.cell? (ad.add j) = some v) ∧ (∀ v ∈ news, v.oneCell' = true) ∧
      (∀ x ∈ elems.flatten,flat x=true)∧(∀ (j:Nat) (x:AV) (v:Value),elems.flatten[j]?=some x→news[j]?=some v→Rep F gs w x v):=by
  cases hr with
  | nil=>exact ⟨none,0,[],rfl,by simp,by simp,by simp,by simp,by simp⟩
  | empty A c tag ht=>exact ⟨A,c,[],rfl,by simp,by simp,by simp,by simp,by simp⟩
  | row g o c sz' elems us tag ht h0 hsz' hl hnc hm ha hf hr =>
    refine ⟨_,c,us,rfl,by rw [hl,flat_len hsz],fun _=>⟨_,rfl,fun j v hv=>by rw [Addr.add_mid]; exact (ha j v hv).1⟩,fun v hv=>?_,hf,hr⟩
    obtain ⟨j,hj,rfl⟩:=List.getElem_of_mem hv
    have hx:elems.flatten[j]?=some (elems.flatten[j]'(by omega)):=List.getElem?_eq_getElem (by omega)
    exact (hr j _ _ hx (List.getElem?_eq_getElem hj)).one (hf _ (List.getElem_mem _))
theorem rep_app {F' : Nat → Nat → Prop} {gs : List (Option Nat)} {w' : World} {base e sz : Nat} {v' : Value} {us news : List Value} {es es2 : List (List AV)} {r : Nat}
    (ho:w'.ownsRow base e sz v' (es.length + es2.length) (us ++ news)) (hF:∀ g o,v'.ownBlock=some g→o<(us ++ news).length→F' g o) (hs1:∀ e ∈ es,e.length=sz) (hs2:∀ e ∈ es2,e.length=sz)
    (h1:us.length=es.flatten.length) (h2:news.length=es2.flatten.length) (f1:∀ x ∈ es.flatten,flat x=true) (f2:∀ x ∈ es2.flatten,flat x=true)
    (r1:∀ (j:Nat) (x:AV) (u:Value),es.flatten[j]?=some x→us[j]?=some u→Rep F' gs w' x u) (r2:∀ (j:Nat) (x:AV) (u:Value),es2.flatten[j]?=some x→news[j]?=some u→Rep F' gs w' x u) (hm:es.length + es2.length≤9223372036854775807) :
    Rep F' gs w' (.row (es ++ es2) (.own r)) v':=by
  have hlen:(es ++ es2).length=es.length + es2.length:=List.length_append
  by_cases h0:es ++ es2=[]
  · rw [h0]
    have h00:es.length + es2.length=0:=by rw [← hlen,h0]; rfl
    rcases ho.2 with ⟨rfl,_⟩ | ⟨g,cap,cur,rfl,_⟩
    · exact .empty _ _ _ (by simp)
    · rw [h00]; exact .empty _ _ _ (by simp)
  · rcases ho.2 with ⟨rfl, h00⟩ | ⟨g, cap, cur, rfl, _, hh, hc, hcm, _⟩
    · exact absurd (List.eq_nil_of_length_eq_zero (by omega)) h0
    · rw [← hlen]
      refine .row g 0 cap sz (es ++ es2) (us ++ news) (.own r) (by simp) h0 (fun e he=>?_) (by simp [h1,h2]) (by omega) (by omega) (fun j u hj=>?_) (fun x hx=>?_) (fun j x u hx hu=>?_)
      · rcases List.mem_append.1 he with h | h
        · exact hs1 e h
        · exact hs2 e h
      · have := ho.cells (g := g) rfl j u hj
        rw [Addr.add_mid] at this
        exact ⟨this,hF g (0 + j) rfl (by rw [Nat.zero_add]; exact (List.getElem?_eq_some_iff.1 hj).1)⟩
      · rw [List.flatten_append] at hx
        rcases List.mem_append.1 hx with h | h
        · exact f1 x h
        · exact f2 x h
      · rw [List.flatten_append] at hx
        by_cases hj:j<us.length
        · rw [List.getElem?_append_left (by omega)] at hx
          rw [List.getElem?_append_left hj] at hu
          exact r1 j x u hx hu
        · rw [List.getElem?_append_right (by omega)] at hx hu
          rw [h1] at hu
          exact r2 _ x u hx hu
theorem run_append {o : Oper} {r : Nat} {tt e : TypeId} {sz bytes : Nat} {y z : Operand} {es es2 : List (List AV)} {tag tag2 : Tag} (ho : o.op = .call { callee := .builtin .append, args := #[y, z], argTypes := #[tt, tt] }) [hT : SlA P tt e sz bytes]
    (hy:ev s.t y=some (.row es tag)) (hz:ev s.t z=some (.row es2 tag2)) (htag:(tag=.nil∧r=s.h.length∧es=[]) ∨ (tag=.own r∧s.h[r]?=some (es.length,e,sz)))
    (hs1:∀ e ∈ es,e.length=sz) (hs2:∀ e ∈ es2,e.length=sz) (hb:(es.length + es2.length)*bytes≤140737488355328) (hb2:es.length + es2.length≤140737488355328) (hI:Inv C E s a w) :
    ∃ v' w' E',(execOp a.eval o).run P w=.ok (.value v') w'∧E'.gs=E.gs∧Inv C E' { s with h:=putAt s.h r (es.length + es2.length,e,sz) } a w'∧RepT E' (putAt s.h r (es.length + es2.length,e,sz)) w' (.row (es ++ es2) (.own r)) v'∧(∀ s2,s2.h=s.h→Inv C E s2 a w→Inv C E' { s2 with h:=putAt s.h r (es.length + es2.length,e,sz) } a w'):=by
  obtain ⟨inf,zz,hF⟩:=slA_facts hT.out
  have hyy:=hI.ev hy
  have hzz:=hI.ev hz
  generalize hu:a.eval y=u at hyy
  generalize hv:a.eval z=v at hzz
  obtain ⟨A,c,news,rfl,hnl,hnr,hn1,f2,r2⟩:=rep_news hzz.1 hs2
  have hrle:r≤s.h.length:=by
    rcases htag with ⟨_,h,_⟩ | ⟨_,h⟩
    · omega
    · exact Nat.le_of_lt (List.getElem?_eq_some_iff.1 h).1
  have hrow:∃ us,w.ownsRow C.w0.heap.size e sz u es.length us∧(∀ g o,u.ownBlock=some g→E.F g o→o<us.length)∧(u.ownBlock=none ∨ E.rs[r]?=some u)∧(∀ n e0 s0,s.h[r]?=some (n,e0,s0)→n=es.length∧E.rs[r]?=some u):=by
    rcases htag with ⟨rfl,rfl,rfl⟩ | ⟨rfl,hh⟩
    · cases hyy.1 with
      | nil=>exact ⟨[],World.ownsRow_nil w _ e sz,by simp [Value.ownBlock],.inl rfl,fun n e0 s0 h=>by simp at h⟩
      | empty A c tag ht=>exact absurd rfl ht
      | row g o c sz' es0 us0 tg ht h0=>exact absurd rfl ht
    · obtain ⟨m, e1, s1, h1, h2, h3⟩ := hyy.2 es r rfl
      rw [hh] at h1
      injection h1 with h1
      injection h1 with h1 _
      have hcur:=h3 h1
      obtain ⟨_,us,how,hFo⟩:=hI.rows r u _ _ _ hcur hh
      exact ⟨us,how,hFo,.inr hcur,fun n e0 s0 h=>by rw [hh] at h; injection h with h; injection h with h _; exact ⟨h.symm,hcur⟩⟩
  obtain ⟨us,how,hFo,hcur,hprev⟩:=hrow
  obtain ⟨l1,f1,r1⟩:=own_rep hyy.1 how rfl hs1
  obtain ⟨v',w',hrun,ho',hos,htape,hout,hsize,hblk,hnewb,hpre,hm0⟩:=app_run (P:=P) (t:=tt) (ty:=o.type) (A:=A) (c:=c) (m:=es2.length) hF how rfl hnl hnr hn1 (by simp only [Go.maxLen]; omega) hb hI.size
  have hcellF:∀ b i,E.F b i→w'.cell? ⟨b,i,none⟩=w.cell? ⟨b,i,none⟩:=fun b i hb=>by
    by_cases hub:u.ownBlock=some b
    · exact hpre b i hub (hFo b i hub hb)
    · by_cases hvb : v'.ownBlock = some b
      · rcases hnewb b hvb with h1 | h1
        · exact absurd (hI.bound b i hb) (by omega)
        · exact absurd h1 hub
      · exact cell_blk (hblk b (hI.bound b i hb) (fun h=>hvb h.symm))
  have hall:∀ s2:St,s2.h=s.h→Inv C E s2 a w→Inv C { E with F:=fun b i=>E.F b i ∨ (v'.ownBlock=some b∧i<(us ++ news).length),rs:=putAt E.rs r v' } { s2 with h:=putAt s.h r (es.length + es2.length,e,sz) } a w':=fun s2 hs2 hI2=>by
    obtain ⟨n2,t2,b2,h2⟩:=s2
    simp only at hs2
    subst hs2
    have hMr := hI2.toMem.row (r := r) hrle hos htape hout hsize hblk hcellF
      hF.pos ho' (fun g hg=>by
        rcases hnewb g hg with h1 | h1
        · exact .inl h1
        · rcases hcur with h2 | h2
          · rw [h2] at h1; cases h1
          · exact .inr ⟨u,h2,h1⟩)
      (fun g o hg hfo=>by
        rcases hnewb g hg with h1 | h1
        · exact absurd (hI.bound g o hfo) (by omega)
        · have := hFo g o h1 hfo
          rw [List.length_append]; omega)
      (fun n e0 s0 h0=>by
        obtain ⟨h1,h2⟩:=hprev n e0 s0 h0
        refine ⟨by omega,fun h3=>?_⟩
        rw [hm0 (by omega)]; exact h2)
    exact hI2.mem hMr.1 rfl rfl hMr.2
  have hI':=hall s rfl hI
  have hmono:∀ x u,Rep E.F E.gs w x u→Rep (fun b i=>E.F b i ∨ (v'.ownBlock=some b∧i<(us ++ news).length)) E.gs w' x u:=fun x u hx =>
    hx.mono (fun b i hb=>⟨.inl hb,hcellF b i hb⟩) (fun _ _ h=>h)
  have hp:RepT { E with F:=fun b i=>E.F b i ∨ (v'.ownBlock=some b∧i<(us ++ news).length),rs:=putAt E.rs r v' } (putAt s.h r (es.length + es2.length,e,sz)) w' (.row (es ++ es2) (.own r)) v':=by
    refine ⟨rep_app ho' (fun g o hg ho2=>.inr ⟨hg,ho2⟩) hs1 hs2 l1 (by rw [hnl,flat_len hs2]) f1 f2 (fun j x u hx hu=>hmono x u (r1 j x u hx hu)) (fun j x u hx hu=>hmono x u (r2 j x u hx hu)) (by omega),fun c q e1=>?_⟩
    injection e1 with e1 e2
    injection e2 with e2
    subst e1; subst e2
    exact ⟨_,_,_,putAt_self _ _ _ hrle,by rw [List.length_append]; exact Nat.le_refl _,fun _=>putAt_self _ _ _ (by rw [hI.rown]; exact hrle)⟩
  have hrun2:(execOp a.eval o).run P w=.ok (.value v') w':=by
    generalize a.eval=ρ at hu hv ⊢
    unfold execOp
    simp only [ho,resolve,invoke,builtin,Sem.run_bind,Sem.run_pure,Result.andThen_ok,List.map_toArray,List.map_cons,List.map_nil,hu,hv,hrun]
  exact ⟨v',w',{ E with F:=fun b i=>E.F b i ∨ (v'.ownBlock=some b∧i<(us ++ news).length),rs:=putAt E.rs r v' },hrun2,rfl,hI',hp,hall⟩
theorem aops_append {ops : Array Oper} {o : Oper} {rest : List Oper} {d r : Nat} {tt e : TypeId} {sz bytes : Nat} {y z : Operand} {es es2 : List (List AV)} {tag tag2 : Tag} (ho : o.op = .call { callee := .builtin .append, args := #[y, z], argTypes := #[tt, tt] }) [hT : SlA P tt e sz bytes]
    (hy:ev s.t y=some (.row es tag)) (hz:ev s.t z=some (.row es2 tag2)) (htag:(tag=.nil∧r=s.h.length∧es=[]) ∨ (tag=.own r∧s.h[r]?=some (es.length,e,sz)))
    (hs1:∀ e ∈ es,e.length=sz) (hs2:∀ e ∈ es2,e.length=sz) (hb:(es.length + es2.length)*bytes≤140737488355328) (hb2:es.length + es2.length≤140737488355328)
    (hg:o.guard=none) (hd:o.dst=some d) (hn:Nat.blt d s.n=true)
    (h:AOps P ops rest Q { s with t:=(d,.row (es ++ es2) (.own r)) :: s.t,h:=putAt s.h r (es.length + es2.length,e,sz) }):AOps P ops (o :: rest) Q s:=fun C E a w hI =>
  wpList_plain hg fun K hK=>by
    obtain ⟨v',w',E',hrun,_,hI',hp,_⟩:=run_append (P:=P) ho hy hz htag hs1 hs2 hb hb2 hI
    unfold Oper.wp
    rw [hrun,Oper.upon_value,hd]
    exact hK _ _ (h C _ _ _ (hI'.put (Nat.le_of_ble_eq_true hn) hp))
theorem foldl_set (off : Nat) : ∀ (cs : List Value) (j : Nat) (arr : Array Value), off + j + cs.length ≤ arr.size → ((cs.zipIdx j).foldl (fun (a : Array Value) (p : Value × Nat) => a.setIfInBounds (off + p.2) p.1) arr).toList = spl arr.toList (off + j) cs
  | [],j,arr,h=>by simp [spl]
  | v :: r,j,arr,h=>by
    simp only [List.length_cons] at h
    rw [List.zipIdx_cons,List.foldl_cons,foldl_set off r (j + 1) _ (by simp; omega)]
    have hset:(arr.setIfInBounds (off + j) v).toList=arr.toList.set (off + j) v:=by simp
    rw [hset]
    apply List.ext_getElem?
    intro q
    rw [spl_at _ _ _ (by simp; omega),spl_at _ _ _ (by simp; omega)]
    simp only [List.length_cons]
    by_cases e1:off + (j + 1)≤q∧q<off + (j + 1) + r.length
    · rw [if_pos e1,if_pos (by omega),show q - (off + j)=(q - (off + (j + 1))) + 1 by omega,List.getElem?_cons_succ]
    · rw [if_neg e1]
      by_cases e2:q=off + j
      · subst e2
        rw [if_pos (by omega),Nat.sub_self,List.getElem?_set_self (by simp; omega)]; rfl
      · rw [if_neg (by omega),List.getElem?_set_ne (by omega)]
theorem fill_all {sz : Nat} : ∀ (vs : List Value) (k n : Nat) (cells : Array Value), cells.size = n * sz → k + vs.length ≤ n → (∀ v ∈ vs, v.cells.size = sz) → (∀ v ∈ vs, v.cells.toList.length = sz) →
    ∃ out:Array Value,Instr.fill (fun i=>some (i*sz,sz)) cells ((vs.zipIdx k).map fun p=>(p.2,p.1))=some out∧out.toList=cells.toList.take (k*sz) ++ (vs.flatMap fun v=>v.cells.toList) ++ cells.toList.drop ((k + vs.length)*sz)
  | [],k,n,cells,h,hk,_,_=>⟨cells,rfl,by simp⟩
  | v :: vs,k,n,cells,h,hk,h1,h2=>by
    simp only [List.length_cons] at hk
    have hv:=h1 v (by simp)
    have hb:k*sz + sz≤n*sz:=by rw [← Nat.succ_mul]; exact Nat.mul_le_mul_right _ (by omega)
    let cells2:=v.cells.zipIdx.foldl (fun cs (p:Value × Nat)=>cs.setIfInBounds (k*sz + p.2) p.1) cells
    have hc2:cells2.toList=spl cells.toList (k*sz) v.cells.toList:=by
      have:=foldl_set (k*sz) v.cells.toList 0 cells (by simp [h,hv]; omega)
      rw [Nat.add_zero] at this
      rw [← this]
      simp only [cells2]
      rw [← Array.foldl_toList,Array.toList_zipIdx]
    have hs2:cells2.size=n*sz:=by
      rw [← Array.length_toList,hc2,spl_len _ _ _ (by simp [h,hv]; omega)]; simpa using h
    obtain ⟨out,ho,hl⟩:=fill_all vs (k + 1) n cells2 hs2 (by omega) (fun x hx=>h1 x (by simp [hx])) (fun x hx=>h2 x (by simp [hx]))
    refine ⟨out,?_,?_⟩
    · rw [List.zipIdx_cons, List.map_cons, Instr.fill]
      simp only []
      rw [if_neg (by rw [hv,h]; simp; omega)]
      exact ho
    · rw [hl, hc2]
      have hvl:v.cells.toList.length=sz:=by simpa using hv
      have hcl:cells.toList.length=n*sz:=by simpa using h
      have hs:(k + 1)*sz=k*sz + sz:=Nat.succ_mul _ _
      have hd:(k + 1 + vs.length)*sz=k*sz + sz + vs.length*sz:=by rw [Nat.add_mul,hs]
      have hd2:(k + (v :: vs).length)*sz=k*sz + sz + vs.length*sz:=by rw [List.length_cons,Nat.add_mul,Nat.succ_mul]; omega
      have e1:(spl cells.toList (k*sz) v.cells.toList).take ((k + 1)*sz)=cells.toList.take (k*sz) ++ v.cells.toList:=by
        unfold spl
        rw [hs,List.take_append_of_le_length (by rw [List.length_append,List.length_take,hvl]; omega),List.take_of_length_le (by rw [List.length_append,List.length_take,hvl]; omega)]
      have e2:(spl cells.toList (k*sz) v.cells.toList).drop ((k + 1 + vs.length)*sz)=cells.toList.drop ((k + (v :: vs).length)*sz):=by
        unfold spl
        rw [hd,hd2,List.drop_append,List.drop_of_length_le (by rw [List.length_append,List.length_take,hvl]; omega),List.nil_append,List.drop_drop]
        congr 1
        rw [List.length_append,List.length_take,hvl]
        omega
      rw [e1,e2,List.flatMap_cons]
      simp
def evs (t : List (Nat × AV)) : List (Nat × Operand) → Nat → Option (List (List AV))
  | [],_=>some []
  | (i,y) :: r,k=>if i=k then (match (ev t y).bind cellsAV,evs t r (k + 1) with | some cs,some css=>some (cs.map wk1 :: css) | _,_=>none) else none
theorem evs_sound {C : Ctx} {E : Env} {a : Act} {w : World} {s : St} (hI : Inv C E s a w) {sz : Nat} : ∀ {ps : List (Nat × Operand)} {k : Nat} {es : List (List AV)}, evs s.t ps k = some es → (∀ e ∈ es, e.length = sz) →
    ∃ vs : List Value, vs.length = ps.length ∧ es.length = ps.length ∧ ps.map (fun p => (p.1, a.eval p.2)) = (vs.zipIdx k).map (fun p => (p.2, p.1)) ∧ (∀ v ∈ vs, v.cells.size = sz) ∧
      (vs.flatMap fun v=>v.cells.toList).length=es.flatten.length∧(∀ x ∈ es.flatten,flat x=true)∧(∀ (j:Nat) (x:AV) (u:Value),es.flatten[j]?=some x→(vs.flatMap fun v=>v.cells.toList)[j]?=some u→Rep E.F E.gs w x u)∧(∀ u ∈ vs.flatMap fun v=>v.cells.toList,u.oneCell'=true)
  | [],k,es,h,hsz=>by
    simp only [evs,Option.some.injEq] at h
    subst h
    exact ⟨[],rfl,rfl,rfl,by simp,by simp,by simp,by simp,by simp⟩
  | (i,y) :: r,k,es,h,hsz=>by
    simp only [evs] at h
    split at h
    · rename_i hik
      subst hik
      split at h
      · rename_i cs css h1 h2
        injection h with h
        subst h
        rw [Option.bind_eq_some_iff] at h1
        obtain ⟨x,hx,hcs⟩:=h1
        have hr:=cellsAV_rep (hI.ev hx) hcs
        have hl:cs.length=sz:=by have:=hsz (cs.map wk1) (by simp); simpa using this
        obtain ⟨vs,g1,g2,g3,g4,g5,g6,g7,g8⟩:=evs_sound hI h2 (fun e he=>hsz e (by simp [he]))
        have hcl:(a.eval y).cells.toList.length=cs.length:=hr.1
        refine ⟨a.eval y :: vs,by simp [g1],by simp [g2],by rw [List.map_cons,g3,List.zipIdx_cons,List.map_cons],fun v hv=>?_,?_,?_,?_,?_⟩
        · rcases List.mem_cons.1 hv with rfl | hv
          · rw [← hl,← hcl]; simp
          · exact g4 v hv
        · rw [List.flatMap_cons,List.flatten_cons,List.length_append,List.length_append,g5,hcl,List.length_map]
        · intro z hz
          rw [List.flatten_cons] at hz
          rcases List.mem_append.1 hz with hz | hz
          · exact flat_wk hr.2.1 z hz
          · exact g6 z hz
        · intro j z u hz hu
          rw [List.flatten_cons] at hz
          rw [List.flatMap_cons] at hu
          by_cases hj:j<cs.length
          · rw [List.getElem?_append_left (by simpa using hj), List.getElem?_map, Option.map_eq_some_iff] at hz
            obtain ⟨z0,hz0,rfl⟩:=hz
            rw [List.getElem?_append_left (by omega)] at hu
            exact (hr.2.2 j z0 u hz0 hu).1.wk1
          · rw [List.getElem?_append_right (by simpa using Nat.le_of_not_lt hj), List.length_map] at hz
            rw [List.getElem?_append_right (by omega),hcl] at hu
            exact g7 _ z u hz hu
        · intro u hu
          rw [List.flatMap_cons] at hu
          rcases List.mem_append.1 hu with hu | hu
          · exact hr.one u hu
          · exact g8 u hu
      · cases h
    · cases h
theorem run_lit {o : Oper} {len : Nat} {tt e : TypeId} {sz bytes : Nat} {ps : List (Nat × Operand)} {es : List (List AV)} (ho : o.op = .buildSlice tt len ps.toArray) [hT : SlA P tt e sz bytes]
    (hp:evs s.t ps 0=some es) (hsz:∀ e ∈ es,e.length=sz) (hlen:ps.length=len) (hb:Nat.ble (len*sz) 16777216=true) (hI:Inv C E s a w) :
    ∃ v' w' E',(execOp a.eval o).run P w=.ok (.value v') w'∧E'.gs=E.gs∧E'.rs=putAt E.rs s.h.length v'∧Inv C E' { s with h:=s.h ++ [(es.length,e,sz)] } a w'∧RepT E' (s.h ++ [(es.length,e,sz)]) w' (.row es (.own s.h.length)) v'∧(∀ s2,Inv C E s2 a w→Inv C E' { s2 with h:=s2.h ++ [(es.length,e,sz)] } a w'):=by
  obtain ⟨inf,zz,hF⟩:=slA_facts hT.out
  have hb:=Nat.le_of_ble_eq_true hb
  obtain ⟨vs,g1,g2,g3,g4,g5,g6,g7,g8⟩:=evs_sound hI hp hsz
  have hvl:vs.length=len:=g1.trans hlen
  have hfill:∀ zs:Array Value,zs.size=len*sz→∃ out:Array Value,Instr.fill (fun i=>some (i*sz,sz)) zs ((vs.zipIdx 0).map fun p=>(p.2,p.1))=some out∧out.toList=vs.flatMap fun v=>v.cells.toList:=fun zs hz=>by
    obtain ⟨out,h1,h2⟩:=fill_all (sz:=sz) vs 0 len zs hz (by omega) g4 (fun v hv=>by simpa using g4 v hv)
    refine ⟨out,h1,?_⟩
    rw [h2,Nat.zero_mul,List.take_zero,List.nil_append,Nat.zero_add,hvl,List.drop_of_length_le (by simp [hz]),List.append_nil]
  have hzl:∃ zs:Array Value,zs.size=len*sz∧∀ parts:Array (Nat × Value),(Instr.buildSlice tt len parts).run P w=((match Instr.fill (fun i=>some (i*sz,sz)) zs parts.toList with | some cells=>(do pure (.slice (some (← newRow e cells)) len len)) | none=>stuck "buildSlice: a part of the wrong size":Sem Value)).run P w:=by
    have hb':¬ (2 ^ 24<len*sz):=by omega
    have hb'':¬ (16777216<len*sz):=by omega
    by_cases h0:len*sz=0
    · refine ⟨(Array.range (len * sz)).map ((#[] : Array Value)[· % (#[] : Array Value).size]!), by simp, fun parts => ?_⟩
      simp [Instr.buildSlice,run_underlying hF.und,sizeOf,typeInfo,hF.info,hF.size,h0]
      generalize Instr.fill _ _ _=q
      cases q <;> rfl
    · refine ⟨(Array.range (len * sz)).map (zz.cells[· % zz.cells.size]!), by simp, fun parts => ?_⟩
      simp [Instr.buildSlice,run_underlying hF.und,sizeOf,typeInfo,hF.info,hF.size,hF.zero,zeroValue,h0,hb',hb'']
      generalize Instr.fill _ _ _=q
      cases q <;> rfl
  obtain ⟨zs,hz1,hz2⟩:=hzl
  obtain ⟨out,ho1,ho2⟩:=hfill zs hz1
  have husl:(vs.flatMap fun v=>v.cells.toList).length=len*sz:=by rw [g5,flat_len hsz,g2,hlen]
  have hrun:(execOp a.eval o).run P w=.ok (.value (.slice (some ⟨w.heap.size,0,none⟩) len len)) (w.alloc (.cells out e (0,0))):=by
    have hparts:(ps.toArray.map fun (p:Nat × Operand)=>(p.1,a.eval p.2)).toList=(vs.zipIdx 0).map fun p=>(p.2,p.1):=by rw [← g3]; simp
    unfold execOp
    simp only [ho]
    rw [Sem.run_bind,hz2,hparts,ho1]
    simp [newRow,Sem.run_bind]
  have hsz':(w.alloc (.cells out e (0,0))).heap.size=w.heap.size + 1:=by show (w.heap.push _).size=_; simp
  have hold:∀ k,k<w.heap.size→(w.alloc (.cells out e (0,0))).heap[k]?=w.heap[k]?:=fun k hk=>Below.heap_alloc w _ k hk
  have hnew:(w.alloc (.cells out e (0,0))).heap[w.heap.size]?=some (.cells out e (0,0)):=by show (w.heap.push _)[w.heap.size]?=_; simp
  have hos:out.size=len*sz:=by rw [← Array.length_toList,ho2,husl]
  have hpos:=hF.pos
  have hlen63:len≤16777216:=Nat.le_trans (Nat.le_mul_of_pos_right len hpos) hb
  have hown:(w.alloc (.cells out e (0,0))).ownsRow C.w0.heap.size e sz (.slice (some ⟨w.heap.size,0,none⟩) len len) len (vs.flatMap fun v=>v.cells.toList) :=
    ⟨husl,.inr ⟨w.heap.size,len,out,rfl,hI.size,hnew,Nat.le_refl _,by simp only [Go.maxLen]; omega,hos,by rw [List.take_of_length_le (by rw [Array.length_toList]; omega),ho2]⟩⟩
  have hob:(Value.slice (some ⟨w.heap.size,0,none⟩) len len).ownBlock=some w.heap.size:=rfl
  have hall:∀ s2:St,Inv C E s2 a w→Inv C { E with F:=fun b i=>E.F b i ∨ ((Value.slice (some ⟨w.heap.size,0,none⟩) len len).ownBlock=some b∧i<(vs.flatMap fun v=>v.cells.toList).length),rs:=putAt E.rs s.h.length (.slice (some ⟨w.heap.size,0,none⟩) len len) } { s2 with h:=s2.h ++ [(es.length,e,sz)] } a (w.alloc (.cells out e (0,0))):=fun s2 hI2=>by
    have hl2:s2.h.length=s.h.length:=by rw [← hI2.rown,hI.rown]
    obtain ⟨hM, hr⟩ := hI2.toMem.row (r := s2.h.length) (Nat.le_refl _) (w' := w.alloc (.cells out e (0, 0))) rfl rfl rfl (by omega) (fun k hk _ => hold k hk) (fun b i hb => cell_blk (hold b (hI.bound b i hb))) hpos hown
      (fun g hg=>.inl (by rw [hob] at hg; injection hg with hg; omega)) (fun g o hg hfo=>by
        rw [hob] at hg; injection hg with hg
        exact absurd (hI.bound g o hfo) (by omega))
      (fun n e0 s0 h0=>by simp at h0)
    have hput:putAt s2.h s2.h.length (len,e,sz)=s2.h ++ [(es.length,e,sz)]:=by unfold putAt; rw [if_neg (Nat.lt_irrefl _),g2,hlen]
    have hI':=hI2.mem hM rfl rfl hr
    rw [hput] at hI'
    rw [hl2] at hI'
    exact hI'
  have hI':=hall s hI
  have hel:es.length=len:=g2.trans hlen
  have hp:RepT { E with F:=fun b i=>E.F b i ∨ ((Value.slice (some ⟨w.heap.size,0,none⟩) len len).ownBlock=some b∧i<(vs.flatMap fun v=>v.cells.toList).length),rs:=putAt E.rs s.h.length (.slice (some ⟨w.heap.size,0,none⟩) len len) } (s.h ++ [(es.length,e,sz)]) (w.alloc (.cells out e (0,0))) (.row es (.own s.h.length)) (.slice (some ⟨w.heap.size,0,none⟩) len len):=by
    refine ⟨?_,fun c q e1=>?_⟩
    · have := rep_app (es := []) (es2 := es) (us := []) (news := vs.flatMap fun v => v.cells.toList) (r := s.h.length) (F' := fun b i => E.F b i ∨ ((Value.slice (some ⟨w.heap.size, 0, none⟩) len len).ownBlock = some b ∧ i < (vs.flatMap fun v => v.cells.toList).length)) (gs := E.gs) (sz := sz) (base := C.w0.heap.size) (e := e)
        (v':=.slice (some ⟨w.heap.size,0,none⟩) len len) (w':=w.alloc (.cells out e (0,0))) (by simpa [hel] using hown) (fun g o hg ho=>.inr ⟨hg,by simpa using ho⟩) (by simp) hsz (by simp) g5 (by simp) g6 (by simp)
        (fun j x u hx hu=>(g7 j x u hx hu).mono (fun b i hb=>⟨.inl hb,cell_blk (hold b (hI.bound b i hb))⟩) (fun _ _ h=>h)) (by simp; omega)
      simpa using this
    · injection e1 with e1 e2
      injection e2 with e2
      subst e1; subst e2
      exact ⟨es.length,e,sz,by simp,Nat.le_refl _,fun _=>putAt_self _ _ _ (by rw [hI.rown]; exact Nat.le_refl _)⟩
  exact ⟨_,_,{ E with F:=fun b i=>E.F b i ∨ ((Value.slice (some ⟨w.heap.size,0,none⟩) len len).ownBlock=some b∧i<(vs.flatMap fun v=>v.cells.toList).length),rs:=putAt E.rs s.h.length (.slice (some ⟨w.heap.size,0,none⟩) len len) },hrun,rfl,rfl,hI',hp,hall⟩
theorem aops_lit {ops : Array Oper} {o : Oper} {rest : List Oper} {d len : Nat} {tt e : TypeId} {sz bytes : Nat} {ps : List (Nat × Operand)} {es : List (List AV)} (ho : o.op = .buildSlice tt len ps.toArray) [hT : SlA P tt e sz bytes]
    (hp:evs s.t ps 0=some es) (hsz:∀ e ∈ es,e.length=sz) (hlen:ps.length=len) (hb:Nat.ble (len*sz) 16777216=true) (hg:o.guard=none) (hd:o.dst=some d) (hn:Nat.blt d s.n=true)
    (h:AOps P ops rest Q { s with t:=(d,.row es (.own s.h.length)) :: s.t,h:=s.h ++ [(es.length,e,sz)] }):AOps P ops (o :: rest) Q s:=fun C E a w hI =>
  wpList_plain hg fun K hK=>by
    obtain ⟨v',w',E',hrun,_,_,hI',hp,_⟩:=run_lit (P:=P) ho hp hsz hlen hb hI
    unfold Oper.wp
    rw [hrun,Oper.upon_value,hd]
    exact hK _ _ (h C _ _ _ (hI'.put (Nat.le_of_ble_eq_true hn) hp))
end
def Fn (P:Program) (f:FuncId) (args:List AV) (bs:List (List AV)) (r:AV) (bs':List (List AV)):Prop :=
  ∀ (C : Ctx) (vs : List Value), Mem C ⟨C.F0, C.gs0.map some, []⟩ ⟨0, [], bs, []⟩ C.w0 → Reps C.F0 (C.gs0.map some) C.w0 args vs →
    Calls P f vs.toArray C.w0 fun e w'=>∃ v E n t hh,e=.returned v∧Mem C E ⟨n,t,bs',hh⟩ w'∧Rep E.F E.gs w' r v
class FnIs (P : Program) (f : FuncId) (fn : outParam Func) : Prop where
  is:P.funcs[f]?=some fn
  name:(fn.name == "runtime.NumGoroutine")=false
  body:fn.body.isSome=true
section
variable {P:Program} {Q:Exit→St→Prop} {s:St} {C:Ctx} {E:Env} {a:Act} {w:World}
theorem run_call {f:FuncId} {fn:Func} (hf:FnIs P f fn) (args:Array Value) (w:World):(callFunc f args).run P w=.ok (.enter f args) w:=by
  have h1:fn.name ≠ "runtime.NumGoroutine":=by simpa using hf.name
  obtain ⟨c,hc⟩:=Option.isSome_iff_exists.1 hf.body
  simp [callFunc,hf.is,h1,hc]
def evl (t : List (Nat × AV)) : List Operand → Option (List AV)
  | []=>some []
  | y :: r=>match ev t y,evl t r with | some x,some xs=>some (x :: xs) | _,_=>none
theorem evl_sound (hI : Inv C E s a w) {t : List (Nat × AV)} (ht : Sub t s.t) : ∀ {as_ : List Operand} {xs : List AV}, evl t as_ = some xs → Reps E.F E.gs w xs (as_.map a.eval)
  | [],xs,h=>by
    simp only [evl,Option.some.injEq] at h
    subst h
    exact ⟨rfl,by simp⟩
  | y :: r,xs,h=>by
    simp only [evl] at h
    split at h
    · rename_i x ys hx hy
      injection h with h
      subst h
      have ih:=evl_sound hI ht hy
      refine ⟨by simp [ih.1],fun j x' u hx' hu=>?_⟩
      cases j with
      | zero=>simp at hx' hu; subst hx'; subst hu; exact (hI.ev (ev_sub ht hx)).1
      | succ j=>exact ih.2 j x' u (by simpa using hx') (by simpa using hu)
    · cases h
theorem Mem.call (hM:Mem C E s w) {w':World} {E2:Env} {n:Nat} {t:List (Nat × AV)} {bs:List (List AV)} {hh:List (Nat × Nat × Nat)} (h2:Mem ⟨w,E.F,[]⟩ E2 ⟨n,t,bs,hh⟩ w') :
    Mem C { E with F := fun b i => E.F b i ∨ (w.heap.size ≤ b ∧ E2.F b i) } s w' ∧ (∀ x u, RepT E s.h w x u → RepT { E with F := fun b i => E.F b i ∨ (w.heap.size ≤ b ∧ E2.F b i) } s.h w' x u) ∧
      (∀ x u,Rep E2.F E2.gs w' x u→resB x=true→Rep (fun b i=>E.F b i ∨ (w.heap.size≤b∧E2.F b i)) E.gs w' x u):=by
  have hblk:∀ k,k<w.heap.size→w'.heap[k]?=w.heap[k]?:=fun k hk=>h2.block k hk (by simp)
  have hlt:∀ (i g:Nat),E.gs[i]?=some (some g)→g<w.heap.size:=fun i g h=>by
    have hi:i<s.b.length:=by rw [← hM.boxn]; exact (List.getElem?_eq_some_iff.1 h).1
    obtain ⟨us,t,hh,_⟩:=hM.boxes i g _ h (List.getElem?_eq_getElem hi)
    exact (Array.getElem?_eq_some_iff.1 hh).1
  have hrlt:∀ (r:Nat) (v:Value) (g:Nat),E.rs[r]?=some v→v.ownBlock=some g→g<w.heap.size:=fun r v g hv hg=>by
    have hr:r<s.h.length:=by rw [← hM.rown]; exact (List.getElem?_eq_some_iff.1 hv).1
    obtain ⟨h0,us0,ho,_⟩:=hM.rows r v _ _ _ hv (List.getElem?_eq_getElem hr)
    exact (ho.lt _ hg).2
  have hrep:∀ x u,RepT E s.h w x u→RepT { E with F:=fun b i=>E.F b i ∨ (w.heap.size≤b∧E2.F b i) } s.h w' x u:=fun x u h =>
    ⟨h.1.mono (fun b i hb=>⟨.inl hb,cell_blk (hblk b (hM.bound b i hb))⟩) (fun _ _ h=>h),h.2⟩
  refine ⟨?_,hrep,fun x u hx hres=>?_⟩
  · exact {
      os:=h2.os.trans hM.os
      tape:=h2.tape.trans hM.tape
      output:=h2.output.trans hM.output
      size:=Nat.le_trans hM.size h2.size
      block:=fun k hk hn=>(hblk k (Nat.lt_of_lt_of_le hk hM.size)).trans (hM.block k hk hn)
      grow:=fun b i h=>.inl (hM.grow b i h)
      old:=fun b i h hb=>by
        rcases h with h | ⟨h,_⟩
        · exact hM.old b i h hb
        · have := hM.size
          omega
      bound:=fun b i h=>by
        rcases h with h | ⟨_,h⟩
        · exact Nat.lt_of_lt_of_le (hM.bound b i h) h2.size
        · exact h2.bound b i h
      pre:=hM.pre
      boxn:=hM.boxn
      boxes:=fun i g cs hg hc=>by
        obtain ⟨us,t,hh,h1,h3,h4⟩:=hM.boxes i g cs hg hc
        exact ⟨us,t,(hblk g (hlt i g hg)).trans hh,h1,h3,fun j x u hx hu=>hrep x u (h4 j x u hx hu)⟩
      fresh:=fun i g hg=>⟨fun o h=>by
        rcases h with h | ⟨h,_⟩
        · exact (hM.fresh i g hg).1 o h
        · have := hlt i g hg
          omega,(hM.fresh i g hg).2⟩
      inj:=hM.inj
      rown:=hM.rown
      rows:=fun r v n e size hv hn=>by
        obtain ⟨h0,us,ho,hF⟩:=hM.rows r v n e size hv hn
        refine ⟨h0,us,own_move_ ho (fun k hk=>hblk k (hrlt r v k hv hk)),fun g o hg h=>?_⟩
        rcases h with h | ⟨h,_⟩
        · exact hF g o hg h
        · have := hrlt r v g hv hg
          omega
      rinj:=hM.rinj
      rbox:=hM.rbox }
  · have h5 : Rep E2.F E.gs w' x u := hx.res hres
    refine h5.mono (fun b i hb=>⟨?_,rfl⟩) (fun _ _ h=>h)
    by_cases hlb:b<w.heap.size
    · exact .inl (h2.old b i hb hlb)
    · exact .inr ⟨by omega,hb⟩
theorem step_call {o : Oper} {t : List (Nat × AV)} {b : List (List AV)} {f : FuncId} {fn : Func} {as_ : List Operand} {ts : Array TypeId} {args0 args : List AV} {r : AV} {bs : List (List AV)} (hf : Fn P f args [] r bs) (ho : o.op = .call { callee := .value (.func f), args := as_.toArray, argTypes := ts }) (ha : evl t as_ = some args0) (hw : args0.map wk = args)
    (harg:args.all argB=true) (hres:resB r=true) [hfn:FnIs P f fn]:Step P o t b (untag r):=fun C E s a w hI hb ht K Q hK=>by
  have hr:=(evl_sound hI ht ha).wks
  rw [hw] at hr
  have hrun:(execOp a.eval o).run P w=.ok (.enter f (as_.map a.eval).toArray) w:=by
    have h:=run_call hfn (as_.map a.eval).toArray w
    unfold execOp
    simp [ho,resolve,Deferred.ofValue,invoke,Act.eval,h]
  unfold Oper.wp
  rw [hrun,Oper.upon_enter]
  have hpre:Mem ⟨w,E.F,[]⟩ ⟨E.F,([]:List Nat).map some,[]⟩ ⟨0,[],[],[]⟩ w:={
    os:=rfl,tape:=rfl,output:=rfl,size:=Nat.le_refl _,block:=fun _ _ _=>rfl,grow:=fun _ _ h=>h,old:=fun _ _ h _=>h,bound:=hI.bound
    pre:=fun i g h=>by simp at h
    boxn:=rfl,boxes:=fun i g cs h=>by simp at h
    fresh:=fun i g h=>by simp at h
    inj:=fun i j g h=>by simp at h
    rown:=rfl,rows:=fun r v n e size h=>by simp at h
    rinj:=fun r r' v v' g h=>by simp at h
    rbox:=fun r i v g h=>by simp at h }
  refine (hf ⟨w,E.F,[]⟩ (as_.map a.eval) hpre ⟨hr.1,fun j x u hx hu=>(hr.2 j x u hx hu).arg (List.all_eq_true.1 harg x (List.mem_of_getElem? hx))⟩).mono ?_
  rintro e w' ⟨v,E2,n,t2,hh,rfl,hM2,hrv⟩
  obtain ⟨hM,hrep,hres2⟩:=hI.toMem.call hM2
  refine hK { E with F:=fun b i=>E.F b i ∨ (w.heap.size≤b∧E2.F b i) } v w' rfl (fun s2 hI2=>hI2.mem (hI2.toMem.call hM2).1 rfl rfl (hI2.toMem.call hM2).2.1) ⟨(hres2 r v hrv hres).untag,fun c q e=>?_⟩
  have:∀ x:AV,untag x ≠ .row c (.own q):=by
    intro x
    cases x with
    | row es tag=>cases tag <;> simp [untag,unt]
    | _=>simp [untag,unt]
  exact absurd e (this r)
def resGet (tmps : Array Value) : ResultVar → Sem Value
  | .tmp t=>pure (tmps.getD t undef)
  | .cell a t=>do loadVar t (← asAddr (tmps.getD a undef))
def ResOk (P:Program) (s:St) (rv:ResultVar) (x:AV):Prop:=∀ C E a w,Inv C E s a w→∃ v,(resGet a.tmps rv).run P w=.ok v w∧Rep E.F E.gs w x v
theorem res_tmp {d:Nat} {x:AV} (h:look s.t d=some x):ResOk P s (.tmp d) x:=fun C E a w hI=>by
  obtain ⟨u,h1,h2⟩:=hI.temps d x h
  exact ⟨u,by simp [resGet,h1],h2.1⟩
theorem res_cell {d i off:Nat} {ty:TypeId} {k:TyK} {cells:List AV} {x:AV} (h:look s.t d=some (.ptr i off)) (hb:s.b[i]?=some cells) [hT:Ty P ty k] (hx:ldAV k cells off=some x):ResOk P s (.cell d ty) x:=fun C E a w hI=>by
  obtain ⟨u,h1,h2⟩:=hI.temps d _ h
  have hr:=h2.1
  cases hr with
  | ptr _ _ g hg =>
    obtain ⟨v,h3,h4⟩:=load_box hI.toMem hg hb hT.out hx
    refine ⟨v,?_,h4.1⟩
    simp only [Instr.loadAt,Instr.sureAddr,Sem.run_bind,Sem.run_pure,Result.andThen_ok] at h3
    simp [resGet,h1,asAddr,h3]
def tmps0 : List AV → Nat → List (Nat × AV)
  | [],_=>[]
  | x :: xs,k=>(k,x) :: tmps0 xs (k + 1)
theorem look_tmps0 : ∀ (xs : List AV) (k d : Nat) (x : AV), look (tmps0 xs k) d = some x → k ≤ d ∧ xs[d - k]? = some x
  | [],k,d,x,h=>by simp [tmps0,look] at h
  | y :: ys,k,d,x,h=>by
    rw [tmps0,look_cons] at h
    by_cases e:k=d
    · rw [if_pos e] at h
      subst e
      simpa using h
    · rw [if_neg e] at h
      obtain ⟨h1,h2⟩:=look_tmps0 ys (k + 1) d x h
      refine ⟨by omega,?_⟩
      rw [show d - k=(d - (k + 1)) + 1 by omega,List.getElem?_cons_succ]
      exact h2
def FinQ (P:Program) (fn:Func) (r:AV) (bs':List (List AV)):Exit→St→Prop:=fun e s=>(e=.normal ∨ e=.ret)∧s.b.take bs'.length=bs'∧bs'.length≤s.b.length∧(resB r=true ∨ ∃ i o,r=.ptr i o∧i<bs'.length)∧∀ C E a w,Inv C E s a w→∃ v,(results fn a.tmps).run P w=.ok v w∧Rep E.F E.gs w r v
theorem Mem.drop (hM:Mem C E s w) (m:Nat) (hm:C.gs0.length≤m) (hms:m≤s.b.length) {n:Nat} {t:List (Nat × AV)}:Mem C { E with gs:=E.gs.take m } ⟨n,t,s.b.take m,s.h⟩ w:=by
  have hgs:∀ (i g:Nat),(E.gs.take m)[i]?=some (some g)→i<m∧E.gs[i]?=some (some g):=fun i g h=>by
    rw [List.getElem?_take] at h
    split at h
    · exact ⟨by assumption,h⟩
    · cases h
  have hrep:∀ x u,flat x=true→RepT E s.h w x u→RepT { E with gs:=E.gs.take m } s.h w x u:=fun x u hx h =>
    ⟨h.1.arg (by cases x <;> first | rfl | cases hx),h.2⟩
  exact {
    os:=hM.os,tape:=hM.tape,output:=hM.output,size:=hM.size,block:=hM.block,grow:=hM.grow,old:=hM.old,bound:=hM.bound
    pre:=fun i g h=>by
      have hi:i<C.gs0.length:=(List.getElem?_eq_some_iff.1 h).1
      show (E.gs.take m)[i]?=_
      rw [List.getElem?_take,if_pos (by omega)]
      exact hM.pre i g h
    boxn:=by simp [hM.boxn]
    boxes:=fun i g cs hg hc=>by
      obtain ⟨hi,hg⟩:=hgs i g hg
      have hc:(s.b.take m)[i]?=some cs:=hc
      rw [List.getElem?_take,if_pos hi] at hc
      obtain ⟨us,ty,h1,h2,h3,h4⟩:=hM.boxes i g cs hg hc
      exact ⟨us,ty,h1,h2,h3,fun j x u hx hu=>hrep x u (h3 x (List.mem_of_getElem? hx)) (h4 j x u hx hu)⟩
    fresh:=fun i g hg=>hM.fresh i g (hgs i g hg).2
    inj:=fun i j g h1 h2=>hM.inj i j g (hgs i g h1).2 (hgs j g h2).2
    rown:=hM.rown,rows:=hM.rows,rinj:=hM.rinj
    rbox:=fun r i v g hv hg h=>hM.rbox r i v g hv hg (hgs i g h).2 }
theorem fn_of {f : FuncId} {fn : Func} {code : Code} {args : List AV} {bs bs' : List (List AV)} {r : AV} {n : Nat} (hf : P.funcs[f]? = some fn) (hb : fn.body = some code) (hn : fn.ntmps = n) (hargs : args.all (fun x => match x with | .row _ (.own _) => false | _ => true) = true) (hna : Nat.ble args.length n = true) (hbb : Nat.ble bs.length bs'.length = true)
    (h:AWP P code (FinQ P fn r bs') ⟨n,tmps0 args 0,bs,[]⟩):Fn P f args bs r bs':=fun C vs hM hr=>by
  subst hn
  have hn:=Nat.le_of_ble_eq_true hna
  have hbb:=Nat.le_of_ble_eq_true hbb
  have hsz:(vs.toArray ++ Array.replicate (fn.ntmps - vs.toArray.size) undef).size=fn.ntmps:=by simp [hr.1]; omega
  have hI:Inv C ⟨C.F0,C.gs0.map some,[]⟩ ⟨fn.ntmps,tmps0 args 0,bs,[]⟩ { tmps:=vs.toArray ++ Array.replicate (fn.ntmps - vs.toArray.size) undef,defers:=[] } C.w0 :=
    { os := hM.os, tape := hM.tape, output := hM.output, size := hM.size, block := hM.block, grow := hM.grow, old := hM.old, bound := hM.bound, pre := hM.pre, boxn := hM.boxn, boxes := hM.boxes, fresh := hM.fresh, inj := hM.inj, rown := hM.rown, rows := hM.rows, rinj := hM.rinj, rbox := hM.rbox
      defers:=rfl
      tsz:=hsz
      temps:=fun d x hd=>by
        obtain ⟨_,hx⟩:=look_tmps0 args 0 d x hd
        rw [Nat.sub_zero] at hx
        have hlt:d<vs.length:=by rw [hr.1]; exact (List.getElem?_eq_some_iff.1 hx).1
        refine ⟨vs[d],?_,hr.2 d x _ hx (List.getElem?_eq_getElem hlt),fun es q e=>?_⟩
        · rw [Array.getElem?_append_left (by simpa using hlt)]
          simp [hlt]
        · have := List.all_eq_true.1 hargs x (List.mem_of_getElem? hx)
          rw [e] at this
          cases this }
  refine calls_of_wp hf hb (wp_mono (h C _ _ _ hI) ?_)
  rintro e a w ⟨E,s,⟨he,hpre,hlen,hptr,hres⟩,hI2⟩
  obtain ⟨v,h1,h2⟩:=hres C E a w hI2
  have hgl:C.gs0.length=bs.length:=by have:=hM.boxn; simpa using this
  have hfin:a.defers=[]∧∃ v,(results fn a.tmps).run P w=.ok v w∧(∃ v' E n t hh,Ending.returned v=.returned v'∧Mem C E ⟨n,t,bs',hh⟩ w∧Rep E.F E.gs w r v'):=by
    refine ⟨hI2.defers,v,h1,v,{ E with gs:=E.gs.take bs'.length },s.n,s.t,s.h,rfl,?_,?_⟩
    · have := hI2.toMem.drop bs'.length (by omega) hlen (n := s.n) (t := s.t)
      rw [hpre] at this
      exact this
    · rcases hptr with hptr | ⟨i, o, rfl, hi⟩
      · exact h2.res hptr
      · cases h2 with
        | ptr _ _ g hg=>exact .ptr _ _ g (by show (E.gs.take bs'.length)[i]?=_; rw [List.getElem?_take,if_pos hi]; exact hg)
  rcases he with rfl | rfl <;> exact hfin
theorem fin1 {fn:Func} {rv:ResultVar} {x:AV} (h:fn.results=#[rv]) (hx:ResOk P s rv x):∀ C E a w,Inv C E s a w→∃ v,(results fn a.tmps).run P w=.ok v w∧Rep E.F E.gs w (wk x) v:=fun C E a w hI=>by
  obtain ⟨v,h1,h2⟩:=hx C E a w hI
  refine ⟨v,?_,h2.wk⟩
  cases rv with
  | tmp t=>simpa [results,h,resGet] using h1
  | cell d ty =>
    simp only [resGet] at h1
    simp [results,h]
    simpa using h1
end
def byteAt (s:ByteArray) (i:Int):Int:=if h:i.toNat<s.size then ((s[i.toNat]'h).toNat:Int) else 0
def wrapK : IntKind → Int → Int
  | .i64,n=>wrap64 n
  | .u8,n=>n % 256
  | k,n=>k.wrap n
theorem wrapK_eq (k:IntKind) (n:Int):wrapK k n=k.wrap n:=by
  cases k with
  | i64=>unfold wrapK wrap64; exact (IntKind.wrap_i64 n).symm
  | u8 =>
    unfold wrapK IntKind.wrap
    simp [IntKind.signed,IntKind.bits]
  | _=>rfl
def cmpI : BinOp → Int → Int → Option Bool
  | .eql,x,y=>some (decide (x=y))
  | .neq,x,y=>some (!decide (x=y))
  | .lss,x,y=>some (decide (x<y))
  | .leq,x,y=>some (decide (x≤y))
  | .gtr,x,y=>some (decide (x > y))
  | .geq,x,y=>some (decide (x ≥ y))
  | _,_,_=>none
def ariI : BinOp → IntKind → Int → Int → Option Int
  | .add,k,x,y=>some (wrapK k (x + y))
  | .sub,k,x,y=>some (wrapK k (x - y))
  | .mul,k,x,y=>some (wrapK k (x*y))
  | .quo,k,x,y=>if y=0 then none else some (wrapK k (Int.tdiv x y))
  | .rem,k,x,y=>if y=0 then none else some (Int.tmod x y)
  | _,_,_,_=>none
def cmpS : BinOp → ByteArray → ByteArray → Option Bool
  | .eql,x,y=>some (decide (x.toList=y.toList))
  | .neq,x,y=>some (!decide (x.toList=y.toList))
  | .lss,x,y=>some (Op.bytesLess x.toList y.toList)
  | .leq,x,y=>some (Op.bytesLess x.toList y.toList || decide (x.toList=y.toList))
  | .gtr,x,y=>some (!(Op.bytesLess x.toList y.toList || decide (x.toList=y.toList)))
  | .geq,x,y=>some (!Op.bytesLess x.toList y.toList)
  | _,_,_=>none
def binV (op : BinOp) : Value → Value → Option Value
  | .int k a,.int k' b=>if k=k' then (match ariI op k a b with | some n=>some (.int k n) | none=>(cmpI op a b).map .bool) else none
  | .string a,.string b=>(cmpS op a b).map .bool
  | _,_=>none
class IntT (P : Program) (t : TypeId) (k : outParam IntKind) : Prop where
  out:P.underlying t=some (.int k)
class BoolT (P : Program) (t : TypeId) : Prop where
  out:P.underlying t=some .bool
section
variable {P:Program} {Q:Exit→St→Prop} {s:St} {w:World}
theorem run_int {op:BinOp} {ty:TypeId} {k:IntKind} {a b:Int} {v:Value} (h:(match ariI op k a b with | some n=>some (Value.int k n) | none=>(cmpI op a b).map .bool)=some v):(binOp op ty (.int k a) (.int k b)).run P w=.ok v w:=by
  by_cases hd:op=.quo ∨ op=.rem
  · by_cases hb : b = 0
    · rcases hd with rfl | rfl <;> simp [ariI,cmpI,hb] at h
    · rcases hd with rfl | rfl <;> (simp [ariI,hb] at h; subst h; simp [binOp,Op.intDiv,hb,wrapK_eq])
  · cases op <;> first
      | (exact absurd (.inl rfl) hd)
      | (exact absurd (.inr rfl) hd)
      | (injection h with h; subst h; show _=Result.ok (Value.bool (a == b)) w; simp [binOp,Op.intCmp]; done)
      | (injection h with h; subst h; show _=Result.ok (Value.bool (a != b)) w; simp [binOp,Op.intCmp]; done)
      | (injection h with h; subst h; simp [binOp,Op.intArith,Op.intCmp,wrapK_eq]; done)
      | (cases h; done)
theorem lbeq (x y:List UInt8):(x == y)=decide (x=y):=by by_cases h:x=y <;> simp [h]
theorem run_str {op:BinOp} {ty:TypeId} {a b:ByteArray} {v:Value} (h:(cmpS op a b).map .bool=some v):(binOp op ty (.string a) (.string b)).run P w=.ok v w:=by
  cases op <;> first
    | (injection h with h; subst h; rw [← lbeq]; simp [binOp,Op.stringOp]; done)
    | (injection h with h; subst h; simp [binOp,Op.stringOp]; done)
    | (cases h; done)
theorem binV_plain {op:BinOp} {a b v:Value} (h:binV op a b=some v):plainV v=true:=by
  unfold binV at h
  split at h
  · split at h
    · split at h
      · injection h with h; subst h; rfl
      · rw [Option.map_eq_some_iff] at h; obtain ⟨_,_,rfl⟩:=h; rfl
    · cases h
  · rw [Option.map_eq_some_iff] at h; obtain ⟨_,_,rfl⟩:=h; rfl
  · cases h
theorem run_binV {op:BinOp} {ty:TypeId} {a b v:Value} (h:binV op a b=some v):(binOp op ty a b).run P w=.ok v w:=by
  unfold binV at h
  split at h
  · split at h
    · rename_i hk; subst hk; exact run_int h
    · cases h
  · exact run_str h
  · cases h
theorem run_guard {op:BinOp} {ty:TypeId} {x y:Operand} {a b:Value} (ha:plainV a=true):(eqGuard op ty x y a b).run P w=.ok () w:=by
  cases a <;> first
    | (exfalso; revert ha; simp [plainV]; done)
    | (cases op <;> rfl)
theorem step_raw {o:Oper} {t:List (Nat × AV)} {b:List (List AV)} {op:BinOp} {ty tz:TypeId} {y z:Operand} {u v c:Value} (ho:o.op=.binOp op ty y z tz) (hy:ev t y=some (.val u)) (hz:ev t z=some (.val v)) (h:∀ w:World,(binOp op ty u v).run P w=.ok c w) (hc:plainV c=true):Step P o t b (.val c):=step_value fun C E s a w hI hb ht=>by
  have h1:=rep_val (hI.ev (ev_sub ht hy)).1
  have h2:=rep_val (hI.ev (ev_sub ht hz)).1
  refine ⟨c,?_,.val _ hc,by intro _ _ e; cases e⟩
  have hg:=run_guard (P:=P) (w:=w) (op:=op) (ty:=ty) (x:=y) (y:=z) (b:=v) h1.2
  have h3:=h w
  have e1:=h1.1
  have e2:=h2.1
  generalize a.eval=ρ at e1 e2 ⊢
  unfold execOp
  simp only [ho,e1,e2,Sem.run_bind,hg,h3,Result.andThen_ok,Sem.run_pure]
theorem step_bin {o:Oper} {t:List (Nat × AV)} {b:List (List AV)} {op:BinOp} {ty tz:TypeId} {y z:Operand} {u v c:Value} (ho:o.op=.binOp op ty y z tz) (hy:ev t y=some (.val u)) (hz:ev t z=some (.val v)) (h:binV op u v=some c):Step P o t b (.val c) :=
  step_raw ho hy hz (fun w=>run_binV h) (binV_plain h)
theorem step_cat {o:Oper} {t:List (Nat × AV)} {b:List (List AV)} {ty tz:TypeId} {y z:Operand} {u v:ByteArray} (ho:o.op=.binOp .add ty y z tz) (hy:ev t y=some (.val (.string u))) (hz:ev t z=some (.val (.string v))) (h:u.size + v.size≤9223372036854775807):Step P o t b (.val (.string (u ++ v))) :=
  step_raw ho hy hz (fun w=>by
    have:¬ (((u.size + v.size:Nat):Int) > IntKind.i64.max):=by show ¬ (_ > (9223372036854775807:Int)); omega
    unfold binOp
    simp only [Op.stringOp,if_neg this]
    rfl) rfl
theorem step_not {o:Oper} {t:List (Nat × AV)} {b:List (List AV)} {ty:TypeId} {y:Operand} {u:Bool} (ho:o.op=.unOp .not ty y) (hy:ev t y=some (.val (.bool u))):Step P o t b (.val (.bool (!u))):=step_value fun C E s a w hI hb ht=>by
  have h1:=(rep_val (hI.ev (ev_sub ht hy)).1).1
  refine ⟨.bool (!u),?_,.val _ rfl,by intro _ _ e; cases e⟩
  generalize a.eval=ρ at h1 ⊢
  simp [execOp,ho,h1,Op.unary]
theorem step_neg {o:Oper} {t:List (Nat × AV)} {b:List (List AV)} {ty:TypeId} {y:Operand} {k:IntKind} {u:Int} (ho:o.op=.unOp .neg ty y) (hy:ev t y=some (.val (.int k u))):Step P o t b (.val (.int k (wrapK k (0 - u)))):=step_value fun C E s a w hI hb ht=>by
  have h1:=(rep_val (hI.ev (ev_sub ht hy)).1).1
  refine ⟨.int k (wrapK k (0 - u)),?_,.val _ rfl,by intro _ _ e; cases e⟩
  generalize a.eval=ρ at h1 ⊢
  simp [execOp,ho,h1,Op.unary,Op.intArith,wrapK_eq]
theorem step_extract {o:Oper} {t:List (Nat × AV)} {b:List (List AV)} {y:Operand} {i:Nat} {vs:List AV} {x:AV} (ho:o.op=.extract y i) (hy:ev t y=some (.tup vs)) (hx:vs[i]?=some x):Step P o t b (untag x):=step_value fun C E s a w hI hb ht=>by
  have h1:=(hI.ev (ev_sub ht hy)).1
  generalize hu:a.eval y=u at h1
  cases h1 with
  | tup _ us hl hr =>
    have hlt:i<us.length:=by rw [hl]; exact (List.getElem?_eq_some_iff.1 hx).1
    have hu2:us[i]?=some us[i]:=List.getElem?_eq_getElem hlt
    refine ⟨us[i],?_,(hr i x _ hx hu2).untag,fun c q e=>?_⟩
    · generalize a.eval = ρ at hu ⊢
      simp [execOp,ho,hu,Instr.extract,hu2]
    · cases x with
      | row es tag=>cases tag <;> simp [untag,unt] at e
      | _=>simp [untag,unt] at e
theorem step_byte {o:Oper} {t:List (Nat × AV)} {b:List (List AV)} {ty:TypeId} {y z:Operand} {x:ByteArray} {k:IntKind} {i:Int} (ho:o.op=.index ty y z) (hy:ev t y=some (.val (.string x))) (hz:ev t z=some (.val (.int k i))) [hT:StrT P ty] (h0:0≤i) (h1:i<x.size):Step P o t b (.val (.int .u8 (byteAt x i))):=step_value fun C E s a w hI hb ht=>by
  have h2:=(rep_val (hI.ev (ev_sub ht hy)).1).1
  have h3:=(rep_val (hI.ev (ev_sub ht hz)).1).1
  have hun:P.underlying ty=some .string:=by
    have h:=hT.out
    split at h
    · assumption
    · cases h
  have hlt:i.toNat<x.size:=by omega
  refine ⟨.int .u8 (byteAt x i),?_,.val _ rfl,by intro _ _ e; cases e⟩
  generalize a.eval=ρ at h2 h3 ⊢
  simp [execOp,ho,h2,h3,Instr.index,run_underlying hun,h0,hlt,byteAt,go_sem]
theorem step_substr {o : Oper} {t : List (Nat × AV)} {b : List (List AV)} {ty : TypeId} {y : Operand} {lo hi : Option Operand} {l h : Int} {x : ByteArray} (ho : o.op = .slice ty y lo hi none) (hy : ev t y = some (.val (.string x))) [hT : StrT P ty]
    (hl:evI t 0 lo=some l) (hh:evI t x.size hi=some h) (h0:0≤l) (h1:l≤h) (h2:h≤x.size):Step P o t b (.val (.string (x.extract l.toNat h.toNat))):=step_value fun C E s a w hI hbe ht=>by
  have hu:=(rep_val (hI.ev (ev_sub ht hy)).1).1
  have hun:P.underlying ty=some .string:=by
    have h:=hT.out
    split at h
    · assumption
    · cases h
  refine ⟨.string (x.extract l.toNat h.toNat),?_,.val _ rfl,by intro _ _ e; cases e⟩
  cases lo with
  | none =>
    obtain rfl:l=0:=by simpa [evI] using hl.symm
    cases hi with
    | none =>
      obtain rfl:h=x.size:=by simpa [evI] using hh.symm
      generalize a.eval=ρ at hu ⊢
      simp [execOp,ho,hu,Instr.sliceAt,Instr.slice,Instr.sliceBounds,run_underlying hun,go_sem]
    | some z =>
      obtain ⟨k,hz⟩:=evI_some hI ht hh
      generalize a.eval=ρ at hu hz ⊢
      simp [execOp,ho,hu,hz,Instr.sliceAt,Instr.slice,Instr.sliceBounds,Instr.sliceBound,run_underlying hun,h1,h2,go_sem]
  | some q =>
    obtain ⟨k,hq⟩:=evI_some hI ht hl
    cases hi with
    | none =>
      obtain rfl:h=x.size:=by simpa [evI] using hh.symm
      have h3:l≤(x.size:Int):=h1
      generalize a.eval=ρ at hu hq ⊢
      simp [execOp,ho,hu,hq,Instr.sliceAt,Instr.slice,Instr.sliceBounds,Instr.sliceBound,run_underlying hun,h0,h3,go_sem]
    | some z =>
      obtain ⟨k2,hz⟩:=evI_some hI ht hh
      have h4:0≤h:=by omega
      have h6:max h 0=h:=by omega
      generalize a.eval=ρ at hu hq hz ⊢
      simp [execOp,ho,hu,hq,hz,Instr.sliceAt,Instr.slice,Instr.sliceBounds,Instr.sliceBound,run_underlying hun,h0,h1,h2,h4,h6,go_sem]
theorem step_conv {o:Oper} {t:List (Nat × AV)} {b:List (List AV)} {src dst:TypeId} {y:Operand} {k k':IntKind} {i:Int} (ho:o.op=.convert src dst y) (hy:ev t y=some (.val (.int k' i))) [hs:IntT P src k'] [hT:IntT P dst k]:Step P o t b (.val (.int k (wrapK k i))):=step_value fun C E s a w hI hb ht=>by
  have hu:=(rep_val (hI.ev (ev_sub ht hy)).1).1
  refine ⟨.int k (wrapK k i),?_,.val _ rfl,by intro _ _ e; cases e⟩
  generalize a.eval=ρ at hu ⊢
  simp [execOp,ho,hu,convert,run_underlying hs.out,run_underlying hT.out,Conv.intToInt,wrapK_eq]
end
theorem len_map {α:Type} {c:α→List AV} {sz:Nat} (hc:∀ x,(c x).length=sz) {xs:List α}:∀ e ∈ xs.map c,e.length=sz:=fun e he=>by
  obtain ⟨x,_,rfl⟩:=List.mem_map.1 he
  exact hc x
class Zf (α : Type) where
  z:α
theorem at_map {α:Type} [Zf α] (c:α→List AV) {xs:List α} {i:Int} (h0:0≤i) (h1:i<(xs.length:Int)):(xs.map c)[i.toNat]?=some (c (xs.getD i.toNat Zf.z)):=by
  have hi:i.toNat<xs.length:=by omega
  rw [List.getElem?_map,List.getElem?_eq_getElem hi,List.getD_eq_getElem?_getD,List.getElem?_eq_getElem hi]
  rfl
section
variable {P:Program} {Q:Exit→St→Prop} {n:Nat} {t:List (Nat × AV)} {b:List (List AV)} {h:List (Nat × Nat × Nat)} {ops:Array Oper} {rest:List Oper} {d:Nat} {tp:TypeId} {ps:String} {af:Array Edge}
theorem a_val {o:Oper} {x:AV} (hs:Step P o t b x) (hg:o.guard=none) (hd:o.dst=some d) (hn:Nat.blt d n=true) (k:AOps P ops rest Q ⟨n,(d,x) :: t,b,h⟩):AOps P ops (o :: rest) Q ⟨n,t,b,h⟩:=aops_step (s:=⟨n,t,b,h⟩) hs hg hd hn k
theorem a_nil (k:Q .normal ⟨n,t,b,h⟩):AOps P ops [] Q ⟨n,t,b,h⟩:=aops_nil k
theorem a_skip {o:Oper} {j dj:Nat} {want q:Bool} (hg:o.guard=some (j,want)) (hj:(ops[j]?).bind (·.dst)=some dj) (hb:look t dj=some (.val (.bool q))) (hq:(q == want)=false) (hd:o.dst=some d) (hn:Nat.blt d n=true) (k:AOps P ops rest Q ⟨n,(d,.tup []) :: t,b,h⟩):AOps P ops (o :: rest) Q ⟨n,t,b,h⟩ :=
  aops_guard (s:=⟨n,t,b,h⟩) (x:=.tup []) hg hj hb hd hn (fun e=>by subst e; simp at hq) (fun _=>k)
theorem a_dead {o:Oper} {j dj:Nat} {want:Bool} (hg:o.guard=some (j,want)) (hj:(ops[j]?).bind (·.dst)=some dj) (hb:look t dj=some (.tup [])) (hd:o.dst=some d) (hn:Nat.blt d n=true) (k:AOps P ops rest Q ⟨n,(d,.tup []) :: t,b,h⟩):AOps P ops (o :: rest) Q ⟨n,t,b,h⟩:=fun C E a w hI =>
  wpList_step fun K hK=>by
    obtain ⟨u,hu,hr⟩:=hI.temps dj _ hb
    have hr1:=hr.1
    generalize hx:AV.tup []=x at hr1
    cases hr1 with
    | tup vs us hl hrr =>
      injection hx with hx
      subst hx
      have hus:us=[]:=List.eq_nil_of_length_eq_zero (by simpa using hl)
      subst hus
      have hw:¬ Region.wanted o (yielded ops a.tmps)=true:=by simp [Region.wanted,hg,yielded,hj,hu]
      rw [if_neg hw,hd]
      exact hK _ _ (k C E _ w (hI.skip (Nat.le_of_ble_eq_true hn)))
    | _=>cases hx
theorem a_skipq {o:Oper} {j dj:Nat} {want q:Bool} (hg:o.guard=some (j,want)) (hj:(ops[j]?).bind (·.dst)=some dj) (hb:look t dj=some (.val (.bool q))) (hq:q=!want) (hd:o.dst=some d) (hn:Nat.blt d n=true) (k:AOps P ops rest Q ⟨n,(d,.tup []) :: t,b,h⟩):AOps P ops (o :: rest) Q ⟨n,t,b,h⟩:=a_skip hg hj hb (by subst hq; cases want <;> rfl) hd hn k
theorem a_region {id:Nat} {l:List Oper} (k:AOps P l.toArray l Q ⟨n,t,b,h⟩):AWP P (.region id l.toArray false) Q ⟨n,t,b,h⟩:=awp_region k
theorem a_cond {c:Operand} {x y:Code} {q:Bool} (hc:ev t c=some (.val (.bool q))) (hx:q=true→AWP P x Q ⟨n,t,b,h⟩) (hy:q=false→AWP P y Q ⟨n,t,b,h⟩):AWP P (.cond c x y) Q ⟨n,t,b,h⟩:=awp_cond (s:=⟨n,t,b,h⟩) hc hx hy
theorem a_true {c:Operand} {x y:Code} (hc:ev t c=some (.val (.bool true))) (hx:AWP P x Q ⟨n,t,b,h⟩):AWP P (.cond c x y) Q ⟨n,t,b,h⟩:=a_cond hc (fun _=>hx) (fun e=>by cases e)
theorem a_false {c:Operand} {x y:Code} (hc:ev t c=some (.val (.bool false))) (hy:AWP P y Q ⟨n,t,b,h⟩):AWP P (.cond c x y) Q ⟨n,t,b,h⟩:=a_cond hc (fun e=>by cases e) (fun _=>hy)
theorem a_trueq {c:Operand} {x y:Code} {q:Bool} (hc:ev t c=some (.val (.bool q))) (hq:q=true) (hx:AWP P x Q ⟨n,t,b,h⟩):AWP P (.cond c x y) Q ⟨n,t,b,h⟩:=a_true (hq ▸ hc) hx
theorem a_falseq {c:Operand} {x y:Code} {q:Bool} (hc:ev t c=some (.val (.bool q))) (hq:q=false) (hy:AWP P y Q ⟨n,t,b,h⟩):AWP P (.cond c x y) Q ⟨n,t,b,h⟩:=a_false (hq ▸ hc) hy
theorem t_norm {K:St→Prop} {s:St} (k:K s):thenQ K Q .normal s:=k
theorem t_exit {K:St→Prop} {s:St} {id:Nat} (k:Q (.exit id) s):thenQ K Q (.exit id) s:=k
theorem t_ret {K:St→Prop} {s:St} (k:Q .ret s):thenQ K Q .ret s:=k
theorem b_norm {s:St} {id:Nat} (k:Q .normal s):blockQ id Q .normal s:=k
theorem b_ret {s:St} {id:Nat} (k:Q .ret s):blockQ id Q .ret s:=k
theorem b_here {s:St} {id:Nat} (k:Q .normal s):blockQ id Q (.exit id) s:=by show (if id=id then _ else _); rw [if_pos rfl]; exact k
theorem ite_some_ {α:Type} {c:Prop} [Decidable c] {x y:Option α} {r:α} (h:(if c then x else y)=some r):(c∧x=some r) ∨ (¬ c∧y=some r):=by
  by_cases hc:c
  · rw [if_pos hc] at h; exact .inl ⟨hc,h⟩
  · rw [if_neg hc] at h; exact .inr ⟨hc,h⟩
theorem ite_none_ {α:Type} {c:Prop} [Decidable c] {x:Option α} {r:α} (h:(if c then x else none)=some r):c∧x=some r:=by
  by_cases hc:c
  · rw [if_pos hc] at h; exact ⟨hc,h⟩
  · rw [if_neg hc] at h; cases h
end
end Go.Proofs.YtdlhidjphaaklaaGreat.V
end
