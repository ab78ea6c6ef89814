/- Part 5 of the proof of the law FnExactMidTree: what it leans on, in build order. No condition. (Merged by wip/reap.py.) -/
import Derived.Test.YtdlhidjphaaklaaGreatXMD
import Derived.IntWalk
import Derived.Deep.RegionWith
import Derived.Lib.Join
set_option linter.unusedVariables false
set_option linter.unusedSimpArgs false
section
namespace Go.Proofs.YtdlhidjphaaklaaGreat.V
open Go Go.RowKit Go.Proofs.YtdlhidjphaaklaaGreat Go.Proofs.YtdlhidjphaaklaaGreat.P Go.Proofs.YtdlhidjphaaklaaGreatW
set_option maxRecDepth 100000
attribute [local irreducible] thenQ blockQ AWP AOps FinQ Draw One PrintWords.bt
set_option maxHeartbeats 4000000 in
theorem impl_Digits_fn {k:Nat} {a0:Int} {r:ByteArray} (H:impl_Digits.f k a0=some r):Fn Tryz.prog 41 [.val (.int .i64 a0)] [] (.val (.string r)) []:=by
 induction k using Nat.strongRecOn generalizing a0 r with
 |_ k ih =>
 cases k
 ·simp [impl_Digits.f] at H
 rename_i k
 refine w_fn (n:=41) Tryz.func41 rfl rfl rfl rfl rfl ?_
 unfold impl_Digits.f at H; try dsimp only at H
 repeat' first
  |(refine one_id ?_; first
   |refine s_move rfl ?_
   |refine s_add64 rfl rfl ?_
   |refine s_bin rfl rfl rfl ?_
   |refine s_assign rfl ?_
   |refine s_pick rfl rfl ?_
   |refine s_conv rfl ?_
   |refine s_neg rfl ?_
   |refine s_rune rfl ?_
   |(refine s_cat rfl rfl ?_ ?_; (focus (first|assumption|omega)))
   |(have hb:=Option.bind_eq_some_iff.1 H; clear H; obtain ⟨t,hA,H⟩:=hb; refine s_call rfl (by first|exact ih _ (by omega) hA) (by first|rfl|(simp only [L25_eq,L32_eq,c25_eq,c32_eq]; rfl)|(simp only [List.map_cons,List.map_nil,L25_eq,L32_eq,c25_eq,c32_eq]; rfl)) rfl rfl rfl ?_)
   )
  |(refine q_id ?_; first
   |refine q_one rfl rfl rfl rfl rfl ?_
   |refine q_nil rfl ?_
   |(refine q_run rfl rfl rfl rfl ?_ rfl rfl ?_; focus (first|with_reducible rfl|(simp only [Bool.not_true,Bool.not_false]; done)))
   |(refine q_skip rfl rfl rfl rfl ?_ rfl rfl ?_; focus (first|with_reducible rfl|(simp only [Bool.not_true,Bool.not_false]; done)))
   )
  |(refine w_id ?_; first
   |refine w_seq rfl ?_
   |refine w_region rfl ?_
   |refine w_block rfl ?_
   |refine w_ret rfl ?_
   |refine w_skip rfl ?_
   |(refine w_true rfl rfl ?_ ?_; focus (first|with_reducible rfl|(simp only [Bool.not_true,Bool.not_false]; done)))
   |(refine w_false rfl rfl ?_ ?_; focus (first|with_reducible rfl|(simp only [Bool.not_true,Bool.not_false]; done)))
   )
  |(refine t_id ?_; first
   |refine t_norm ?_
   |refine t_ret ?_
   )
  |(refine b_id ?_; first
   |refine b_norm ?_
   |refine b_ret ?_
   )
  |(simp (disch:=assumption) only [decide_eq_true,decide_eq_false])
  |(replace H:=(id H:impl_Digits.j0 k _ _=_); cases k; (focus (exfalso; revert H; simp [impl_Digits.j0]; done)); rename_i k; unfold impl_Digits.j0 at H; try dsimp only at H)
  |(obtain rfl:=Option.some.inj H)
  |exact fq1b (.inr rfl) rfl (by first|exact res_tmp rfl|exact res_cell rfl rfl rfl) rfl rfl rfl (.inl rfl)
  |exact fq1b (.inr rfl) rfl (by first|exact res_tmp rfl|exact res_cell rfl rfl rfl) rfl rfl rfl (.inr ⟨_,_,rfl,by decide⟩)
  |exact W1.same _
  |exact W1.no _ _
  |exact W1.any _ rfl
  |exact sub3_nil
  |(simp only [lit_list,wrapK_i64,wrapK_i32,wrapK_u8,wrap64_u8,Int.reduceToNat,Int.toNat_natCast])
  |(simp (disch:=assumption) only [if_pos,if_neg] at H)
  |(simp only [Option.bind_some] at H)
  |(simp only [beq_dec,bne_dec,decide_eq_true_eq] at H)
  |(have hh:=ite_none_ H; clear H; obtain ⟨hc,H⟩:=hh)
  |(have hh:=ite_none2_ H; clear H; obtain ⟨hc,H⟩:=hh)
  |(refine (ite_some_ H).elim (fun hh=>?_) (fun hh=>?_)<;>clear H<;>obtain ⟨hc,H⟩:=hh<;>first|(cases H; done)|(cases hc; done)|(exact absurd rfl hc)|(subst hc; done)|rw [decide_eq_true hc]|rw [decide_eq_false hc]|rw [@decide_eq_true _ (_) hc]|rw [@decide_eq_false _ (_) hc]|subst hc|(obtain rfl:=Bool.eq_false_iff.2 hc)|rw [hc]|rw [Bool.eq_false_iff.2 hc])
  |(simp only [bne_dec,beq_dec])
abbrev impl_IntOf_P:Prop:=∀ {a0:Int} {r:_} (H:impl_IntOf.f a0=some r),Fn Tryz.prog 82 [.val (.int .i64 a0)] [] (.agg [.val (.int .i64 r.1),.val (.int .i64 r.2.1),.val (.string r.2.2.1),.row (r.2.2.2.1.map (cS)) .no,.row (r.2.2.2.2.map (c32)) .no]) []
abbrev impl_SpanText_P:Prop:=∀ {k:Nat} {a0:Int} {r:ByteArray} (H:impl_SpanText.f k a0=some r),Fn Tryz.prog 132 [.val (.int .i64 a0)] [] (.val (.string r)) []
abbrev impl_TextOf_P:Prop:=∀ {a0:ByteArray} {r:_} (H:impl_TextOf.f a0=some r),Fn Tryz.prog 85 [.val (.string a0)] [] (.agg [.val (.int .i64 r.1),.val (.int .i64 r.2.1),.val (.string r.2.2.1),.row (r.2.2.2.1.map (cS)) .no,.row (r.2.2.2.2.map (c32)) .no]) []
abbrev impl_mapOf_P:Prop:=∀ {k:Nat} {l0:List ByteArray} {l1:List (S32)} {r:_} (H:impl_mapOf.f k l0 l1=some r),Fn Tryz.prog 123 [.row (l0.map (cS)) .no,.row (l1.map (c32)) .no] [] (.agg [.val (.int .i64 r.1),.val (.int .i64 r.2.1),.val (.string r.2.2.1),.row (r.2.2.2.1.map (cS)) .no,.row (r.2.2.2.2.map (c32)) .no]) []
abbrev impl_isAmount_P:Prop:=∀ {a0:Int} {r:Bool} (H:impl_isAmount.f a0=some r),Fn Tryz.prog 189 [.val (.int .i64 a0)] [] (.val (.bool r)) []
abbrev impl_AmountText_P:Prop:=∀ {k:Nat} {a0:Int} {r:ByteArray} (H:impl_AmountText.f k a0=some r),Fn Tryz.prog 169 [.val (.int .i64 a0)] [] (.val (.string r)) []
abbrev impl_kindWord_P:Prop:=∀ {a0:Int} {r:ByteArray} (H:impl_kindWord.f a0=some r),Fn Tryz.prog 102 [.val (.int .i64 a0)] [] (.val (.string r)) []
abbrev impl_PaceTree_P:Prop:=∀ {k:Nat} {a0_0:Int} {a0_1:Int} {a0_2:Int} {a0_3:Int} {r:_} (H:impl_PaceTree.f k a0_0 a0_1 a0_2 a0_3=some r),Fn Tryz.prog 66 [.agg [.val (.int .i64 a0_0),.val (.int .i64 a0_1),.val (.int .i64 a0_2),.val (.int .i64 a0_3)]] [] (.agg [.val (.int .i64 r.1),.val (.int .i64 r.2.1),.val (.string r.2.2.1),.row (r.2.2.2.1.map (cS)) .no,.row (r.2.2.2.2.map (c32)) .no]) []
abbrev impl_commonTree_P:Prop:=∀ {k:Nat} {a0_0:ByteArray} {a0_1:ByteArray} {a0_2:Int} {a0_3:Int} {l0_4:List (S61)} {a0_5:Int} {a0_6:Int} {a0_7:Int} {a0_8:Int} {l0_9:List (S124)} {a1:ByteArray} {r:_} (H:impl_commonTree.f k a0_0 a0_1 a0_2 a0_3 l0_4 a0_5 a0_6 a0_7 a0_8 l0_9 a1=some r),Fn Tryz.prog 63 [.agg [.val (.string a0_0),.val (.string a0_1),.val (.int .i64 a0_2),.val (.int .i64 a0_3),.row (l0_4.map (c61)) .no,.val (.int .i64 a0_5),.val (.int .i64 a0_6),.val (.int .i64 a0_7),.val (.int .i64 a0_8),.row (l0_9.map (c124)) .no],.val (.string a1)] [] (.agg [.val (.int .i64 r.1),.val (.int .i64 r.2.1),.val (.string r.2.2.1),.row (r.2.2.2.1.map (cS)) .no,.row (r.2.2.2.2.map (c32)) .no]) []
abbrev impl_MetricTree_P:Prop:=∀ {k:Nat} {a0_0:ByteArray} {a0_1:Int} {a0_2:Int} {r:_} (H:impl_MetricTree.f k a0_0 a0_1 a0_2=some r),Fn Tryz.prog 131 [.agg [.val (.string a0_0),.val (.int .i64 a0_1),.val (.int .i64 a0_2)]] [] (.agg [.val (.int .i64 r.1),.val (.int .i64 r.2.1),.val (.string r.2.2.1),.row (r.2.2.2.1.map (cS)) .no,.row (r.2.2.2.2.map (c32)) .no]) []
abbrev impl_metricsTree_P:Prop:=∀ {k:Nat} {l0:List (S61)} {r:_} (H:impl_metricsTree.f k l0=some r),Fn Tryz.prog 65 [.row (l0.map (c61)) .no] [] (.agg [.val (.int .i64 r.1),.val (.int .i64 r.2.1),.val (.string r.2.2.1),.row (r.2.2.2.1.map (cS)) .no,.row (r.2.2.2.2.map (c32)) .no]) []
abbrev impl_notesTree_P:Prop:=∀ {k:Nat} {l0:List (S124)} {r:_} (H:impl_notesTree.f k l0=some r),Fn Tryz.prog 67 [.row (l0.map (c124)) .no] [] (.agg [.val (.int .i64 r.1),.val (.int .i64 r.2.1),.val (.string r.2.2.1),.row (r.2.2.2.1.map (cS)) .no,.row (r.2.2.2.2.map (c32)) .no]) []
set_option maxHeartbeats 16000000 in
theorem grp_impl_IntOf:(impl_IntOf_P)∧(impl_SpanText_P)∧(impl_TextOf_P)∧(impl_mapOf_P)∧(impl_isAmount_P)∧(impl_isAmount_P→impl_AmountText_P)∧(impl_kindWord_P)∧(impl_IntOf_P→impl_SpanText_P→impl_TextOf_P→impl_mapOf_P→impl_PaceTree_P)∧(impl_IntOf_P→impl_TextOf_P→impl_mapOf_P→impl_commonTree_P)∧(impl_TextOf_P→impl_mapOf_P→impl_AmountText_P→impl_kindWord_P→impl_MetricTree_P)∧(impl_MetricTree_P→impl_metricsTree_P)∧(impl_TextOf_P→impl_notesTree_P):=by
 refine ⟨?_,?_,?_,?_,?_,?_,?_,?_,?_,?_,?_,?_⟩
 intro a0 r H; refine w_fn (n:=5) Tryz.func82 rfl rfl rfl rfl rfl ?_; unfold impl_IntOf.f at H; try dsimp only at H
 rotate_left
 intro k a0 r H; refine w_fn (n:=34) Tryz.func132 rfl rfl rfl rfl rfl ?_; unfold impl_SpanText.f at H; try dsimp only at H
 rotate_left
 intro a0 r H; refine w_fn (n:=5) Tryz.func85 rfl rfl rfl rfl rfl ?_; unfold impl_TextOf.f at H; try dsimp only at H
 rotate_left
 intro k l0 l1 r H; refine w_fn (n:=25) Tryz.func123 rfl rfl rfl rfl rfl ?_; unfold impl_mapOf.f at H; try dsimp only at H
 rotate_left
 intro a0 r H; refine w_fn (n:=5) Tryz.func189 rfl rfl rfl rfl rfl ?_; unfold impl_isAmount.f at H; try dsimp only at H
 rotate_left
 intro q_impl_isAmount k a0 r H; refine w_fn (n:=29) Tryz.func169 rfl rfl rfl rfl rfl ?_; unfold impl_AmountText.f at H; try dsimp only at H
 rotate_left
 intro a0 r H; refine w_fn (n:=10) Tryz.func102 rfl rfl rfl rfl rfl ?_; unfold impl_kindWord.f at H; try dsimp only at H
 rotate_left
 intro q_impl_IntOf q_impl_SpanText q_impl_TextOf q_impl_mapOf k a0_0 a0_1 a0_2 a0_3 r H; refine w_fn (n:=20) Tryz.func66 rfl rfl rfl rfl rfl ?_; unfold impl_PaceTree.f at H; try dsimp only at H
 rotate_left
 intro q_impl_IntOf q_impl_TextOf q_impl_mapOf k a0_0 a0_1 a0_2 a0_3 l0_4 a0_5 a0_6 a0_7 a0_8 l0_9 a1 r H; refine w_fn (n:=22) Tryz.func63 rfl rfl rfl rfl rfl ?_; unfold impl_commonTree.f at H; try dsimp only at H
 rotate_left
 intro q_impl_TextOf q_impl_mapOf q_impl_AmountText q_impl_kindWord k a0_0 a0_1 a0_2 r H; refine w_fn (n:=17) Tryz.func131 rfl rfl rfl rfl rfl ?_; unfold impl_MetricTree.f at H; try dsimp only at H
 rotate_left
 intro q_impl_MetricTree k l0 r H; refine w_fn (n:=22) Tryz.func65 rfl rfl rfl rfl rfl ?_; unfold impl_metricsTree.f at H; try dsimp only at H
 rotate_left
 intro q_impl_TextOf k l0 r H; refine w_fn (n:=22) Tryz.func67 rfl rfl rfl rfl rfl ?_; unfold impl_notesTree.f at H; try dsimp only at H
 rotate_left
 repeat' first
  |exact WB.nil _
  |refine WB.cons ?_ ?_
  |exact WL.nil
  |refine WL.cons ?_ ?_
  |exact W1.same _
  |exact W1.no _ _
  |exact W1.any _ rfl
  |exact sub3_nil
  |refine sub3_cons rfl ?_ ?_
  |rfl
  |(refine one_id ?_; first
   |refine s_move rfl ?_
   |refine s_load rfl rfl rfl ?_
   |refine s_fldb rfl ?_
   |refine s_add64 rfl rfl ?_
   |refine s_bin rfl rfl rfl ?_
   |refine s_assign rfl ?_
   |refine s_pick rfl rfl ?_
   |refine s_loadr rfl rfl rfl ?_
   |refine s_not rfl ?_
   |refine s_lenm rfl ?_
   |refine s_ixS rfl rfl ‹_› ‹_› rfl ?_
   |(refine s_ixS rfl rfl ?_ ?_ rfl ?_; (focus (first|assumption|decide|omega)); (focus (first|assumption|decide|omega)))
   |refine s_ix32 rfl rfl ‹_› ‹_› rfl ?_
   |(refine s_ix32 rfl rfl ?_ ?_ rfl ?_; (focus (first|assumption|decide|omega)); (focus (first|assumption|decide|omega)))
   |refine s_ix61 rfl rfl ‹_› ‹_› rfl ?_
   |(refine s_ix61 rfl rfl ?_ ?_ rfl ?_; (focus (first|assumption|decide|omega)); (focus (first|assumption|decide|omega)))
   |refine s_ix124 rfl rfl ‹_› ‹_› rfl ?_
   |(refine s_ix124 rfl rfl ?_ ?_ rfl ?_; (focus (first|assumption|decide|omega)); (focus (first|assumption|decide|omega)))
   |refine s_lit rfl rfl rfl rfl ?_
   |refine s_build rfl ?_
   |(refine s_cat rfl rfl ?_ ?_; (focus (first|assumption|omega)))
   |(have hb:=Option.bind_eq_some_iff.1 H; clear H; obtain ⟨t,hA,H⟩:=hb; refine s_call rfl (by first|exact impl_Digits_fn hA|exact impl_Set_fn hA|exact impl_from_fn hA|exact q_impl_IntOf hA|exact q_impl_SpanText hA|exact q_impl_TextOf hA|exact q_impl_mapOf hA|exact q_impl_isAmount hA|exact q_impl_AmountText hA|exact q_impl_kindWord hA|exact q_impl_MetricTree hA) (by first|rfl|(simp only [L25_eq,L32_eq,c25_eq,c32_eq]; rfl)|(simp only [List.map_cons,List.map_nil,L25_eq,L32_eq,c25_eq,c32_eq]; rfl)) rfl rfl rfl ?_)
   )
  |(refine q_id ?_; first
   |refine q_alloc rfl rfl rfl rfl rfl ?_
   |refine q_box rfl rfl rfl rfl rfl rfl rfl ?_
   |refine q_one rfl rfl rfl rfl rfl ?_
   |refine q_nil rfl ?_
   |refine q_store rfl rfl rfl rfl rfl rfl rfl rfl rfl rfl ?_
   |(refine q_run rfl rfl rfl rfl ?_ rfl rfl ?_; focus (first|with_reducible rfl|(simp only [Bool.not_true,Bool.not_false]; done)))
   |(refine q_skip rfl rfl rfl rfl ?_ rfl rfl ?_; focus (first|with_reducible rfl|(simp only [Bool.not_true,Bool.not_false]; done)))
   )
  |(refine w_id ?_; first
   |refine w_seq rfl ?_
   |refine w_region rfl ?_
   |refine w_block rfl ?_
   |refine w_ret rfl ?_
   |refine w_skip rfl ?_
   |refine w_exit rfl ?_
   |(refine w_true rfl rfl ?_ ?_; focus (first|with_reducible rfl|(simp only [Bool.not_true,Bool.not_false]; done)))
   |(refine w_false rfl rfl ?_ ?_; focus (first|with_reducible rfl|(simp only [Bool.not_true,Bool.not_false]; done)))
   |refine w_draw (c:=cr (cl (cl (cr (cr (cl (cl (cr (cl (cr (cr (bo Tryz.f123)))))))))))) 7 [] rfl (by kernel_rfl) rfl ?_
   |(refine w_loop3 (fun (v:(List (S32)) × (List ByteArray) × (Int) × (Int) × (Int) × (Int) × (ByteArray) × (List ByteArray) × (List (S32)))=>⟨25,[(1,.row (v.1.map c32) .no),(9,.row (v.2.1.map cS) .no),(10,.val (.int .i64 v.2.2.1)),(11,.val (.int .i64 v.2.2.2.1)),(4,.ptr 0 0),(5,.ptr 1 0)],[[(.val (.int .i64 0)),(.val (.int .i64 0)),(.val (.string ⟨#[]⟩)),(.row [] .nil),(.row [] .nil)],[.val (.int .i64 v.2.2.2.2.1),.val (.int .i64 v.2.2.2.2.2.1),.val (.string v.2.2.2.2.2.2.1),.row (v.2.2.2.2.2.2.2.1.map cS) .no,.row (v.2.2.2.2.2.2.2.2.map c32) .no]],[]⟩) (fun k v=>impl_mapOf.l0 k v.1 v.2.1 v.2.2.1 v.2.2.2.1 v.2.2.2.2.1 v.2.2.2.2.2.1 v.2.2.2.2.2.2.1 v.2.2.2.2.2.2.2.1 v.2.2.2.2.2.2.2.2) _ (_,_,_,_,_,_,_,_,_) rfl (fun _=>rfl) (fun _ _=>rfl) ⟨rfl,?_,?_,rfl,?_,rfl,rfl⟩ rfl H ?_; rotate_right; clear H; rintro k ⟨x1,x9,x10,x11,x854000,x854001,x854002,x854003,x854004⟩ hk H; simp only [impl_mapOf.l0] at H; dsimp only)
   |refine w_draw (c:=cl (cr (bo Tryz.f66))) 17 [] rfl (by kernel_rfl) rfl ?_
   |refine w_draw (c:=cl (cr (bo Tryz.f63))) 17 [] rfl (by kernel_rfl) rfl ?_
   |refine w_draw (c:=cl (cr (bo Tryz.f131))) 14 [] rfl (by kernel_rfl) rfl ?_
   |refine w_draw (c:=cr (cl (cl (cr (cr (cl (cl (cr (cl (cr (cr (bo Tryz.f65)))))))))))) 7 [] rfl (by kernel_rfl) rfl ?_
   |((try refine w_ownb 1 4 32 5 rfl rfl rfl ?_); refine w_loop3 (fun (v:(List (S61)) × (Int) × (Int) × (Int) × (Int) × (ByteArray) × (List (S32)))=>⟨22,[(7,.row (v.1.map c61) .no),(8,.val (.int .i64 v.2.1)),(9,.val (.int .i64 v.2.2.1)),(2,.ptr 0 0),(3,.ptr 1 0)],[[(.val (.int .i64 0)),(.val (.int .i64 0)),(.val (.string ⟨#[]⟩)),(.row [] .nil),(.row [] .nil)],[.val (.int .i64 v.2.2.2.1),.val (.int .i64 v.2.2.2.2.1),.val (.string v.2.2.2.2.2.1),(.row [] .nil),.row (v.2.2.2.2.2.2.map c32) (.own 0)]],[(v.2.2.2.2.2.2.length,32,5)]⟩) (fun k v=>impl_metricsTree.l0 k v.1 v.2.1 v.2.2.1 v.2.2.2.1 v.2.2.2.2.1 v.2.2.2.2.2.1 v.2.2.2.2.2.2) _ (_,_,_,_,_,_,_) rfl (fun _=>rfl) (fun _ _=>rfl) ⟨rfl,?_,?_,rfl,?_,rfl,rfl⟩ rfl H ?_; rotate_right; clear H; rintro k ⟨x7,x8,x9,x980000,x980001,x980002,x980004⟩ hk H; simp only [impl_metricsTree.l0] at H; dsimp only)
   |refine w_draw (c:=cr (cl (cl (cr (cr (cl (cl (cr (cl (cr (cr (bo Tryz.f67)))))))))))) 7 [] rfl (by kernel_rfl) rfl ?_
   |(refine w_loop3 (fun (v:(List (S124)) × (Int) × (Int) × (Int) × (Int) × (ByteArray) × (List ByteArray) × (List (S32)))=>⟨22,[(7,.row (v.1.map c124) .no),(8,.val (.int .i64 v.2.1)),(9,.val (.int .i64 v.2.2.1)),(2,.ptr 0 0),(3,.ptr 1 0)],[[(.val (.int .i64 0)),(.val (.int .i64 0)),(.val (.string ⟨#[]⟩)),(.row [] .nil),(.row [] .nil)],[.val (.int .i64 v.2.2.2.1),.val (.int .i64 v.2.2.2.2.1),.val (.string v.2.2.2.2.2.1),.row (v.2.2.2.2.2.2.1.map cS) .no,.row (v.2.2.2.2.2.2.2.map c32) .no]],[]⟩) (fun k v=>impl_notesTree.l0 k v.1 v.2.1 v.2.2.1 v.2.2.2.1 v.2.2.2.2.1 v.2.2.2.2.2.1 v.2.2.2.2.2.2.1 v.2.2.2.2.2.2.2) _ (_,_,_,_,_,_,_,_) rfl (fun _=>rfl) (fun _ _=>rfl) ⟨rfl,?_,?_,rfl,?_,rfl,rfl⟩ rfl H ?_; rotate_right; clear H; rintro k ⟨x7,x8,x9,x1055000,x1055001,x1055002,x1055003,x1055004⟩ hk H; simp only [impl_notesTree.l0] at H; dsimp only)
   )
  |(refine t_id ?_; first
   |refine t_norm ?_
   |refine t_exit ?_
   |refine t_ret ?_
   )
  |(refine b_id ?_; first
   |refine b_here ?_
   |refine b_norm ?_
   |refine b_ret ?_
   )
  |(refine e_id ?_; first
   |(refine e_append rfl rfl rfl rfl rfl rfl rfl rfl ?_ rfl ?_ ?_ ?_ ?_; (focus (first|rfl|(simp only [List.length_append,List.length_map,List.length_cons,List.length_nil,Nat.zero_add])|exact List.length_map _)); (focus (repeat' first|exact len_lit rfl|(refine len_map ?_; intro _; rfl)|refine len_app ?_ ?_)); (focus (repeat' first|exact len_lit rfl|(refine len_map ?_; intro _; rfl)|refine len_app ?_ ?_)); (focus (constructor<;>first|omega|(simp only [List.length_append,List.length_map,List.length_cons,List.length_nil] at *; omega))))
   |refine e_one rfl rfl rfl rfl rfl ?_
   |refine e_end rfl ?_
   )
  |(simp (disch:=assumption) only [decide_eq_true,decide_eq_false])
  |(replace H:=(id H:impl_SpanText.j0 k _ _=_); cases k; (focus (exfalso; revert H; simp [impl_SpanText.j0]; done)); rename_i k; unfold impl_SpanText.j0 at H; try dsimp only at H)
  |(replace H:=(id H:impl_SpanText.j1 k _ _=_); cases k; (focus (exfalso; revert H; simp [impl_SpanText.j1]; done)); rename_i k; unfold impl_SpanText.j1 at H; try dsimp only at H)
  |(refine ⟨_,(_,_,_,_,_,_,_,_,_),?_,?_,H⟩; (focus omega); refine ⟨rfl,?_,?_,rfl,?_,rfl,rfl⟩)
  |(replace H:=(id H:impl_AmountText.j0 k _ _=_); cases k; (focus (exfalso; revert H; simp [impl_AmountText.j0]; done)); rename_i k; unfold impl_AmountText.j0 at H; try dsimp only at H)
  |(refine ⟨_,(_,_,_,_,_,_,_),?_,?_,H⟩; (focus omega); refine ⟨rfl,?_,?_,rfl,?_,rfl,rfl⟩)
  |(refine ⟨_,(_,_,_,_,_,_,_,_),?_,?_,H⟩; (focus omega); refine ⟨rfl,?_,?_,rfl,?_,rfl,rfl⟩)
  |(obtain rfl:=Option.some.inj H)
  |exact fq1b (.inr rfl) rfl (by first|exact res_tmp rfl|exact res_cell rfl rfl rfl) rfl rfl rfl (.inl rfl)
  |exact fq1b (.inr rfl) rfl (by first|exact res_tmp rfl|exact res_cell rfl rfl rfl) rfl rfl rfl (.inr ⟨_,_,rfl,by decide⟩)
  |exact W1.same _
  |exact W1.no _ _
  |exact W1.any _ rfl
  |exact sub3_nil
  |(refine sub3_cons rfl ?_ ?_)
  |(simp only [lit_list,wrapK_i64,wrapK_i32,wrapK_u8,wrap64_u8,Int.reduceToNat,Int.toNat_natCast])
  |(simp only [List.map_append,List.map_cons,List.map_nil,Int.zero_sub,wrapK_u8,wrap64_u8,L25_eq,L32_eq,c25_eq,c32_eq]; first|exact W1.same _|exact W1.no _ _|exact W1.any _ rfl)
  |(simp only [List.length_append,List.length_map,List.length_cons,List.length_nil]; rfl)
  |(simp (disch:=assumption) only [if_pos,if_neg] at H)
  |(simp only [Option.bind_some] at H)
  |(simp only [beq_dec,bne_dec,decide_eq_true_eq] at H)
  |(have hh:=ite_none_ H; clear H; obtain ⟨hc,H⟩:=hh)
  |(have hh:=ite_none2_ H; clear H; obtain ⟨hc,H⟩:=hh)
  |(refine (ite_some_ H).elim (fun hh=>?_) (fun hh=>?_)<;>clear H<;>obtain ⟨hc,H⟩:=hh<;>first|(cases H; done)|(cases hc; done)|(exact absurd rfl hc)|(subst hc; done)|rw [decide_eq_true hc]|rw [decide_eq_false hc]|rw [@decide_eq_true _ (_) hc]|rw [@decide_eq_false _ (_) hc]|subst hc|(obtain rfl:=Bool.eq_false_iff.2 hc)|rw [hc]|rw [Bool.eq_false_iff.2 hc])
  |(simp only [bne_dec,beq_dec])
theorem impl_IntOf_fn:impl_IntOf_P:=grp_impl_IntOf.1
theorem impl_SpanText_fn:impl_SpanText_P:=grp_impl_IntOf.2.1
theorem impl_TextOf_fn:impl_TextOf_P:=grp_impl_IntOf.2.2.1
theorem impl_mapOf_fn:impl_mapOf_P:=grp_impl_IntOf.2.2.2.1
theorem impl_isAmount_fn:impl_isAmount_P:=grp_impl_IntOf.2.2.2.2.1
theorem impl_AmountText_fn:impl_AmountText_P:=grp_impl_IntOf.2.2.2.2.2.1 impl_isAmount_fn
theorem impl_kindWord_fn:impl_kindWord_P:=grp_impl_IntOf.2.2.2.2.2.2.1
theorem impl_PaceTree_fn:impl_PaceTree_P:=grp_impl_IntOf.2.2.2.2.2.2.2.1 impl_IntOf_fn impl_SpanText_fn impl_TextOf_fn impl_mapOf_fn
theorem impl_commonTree_fn:impl_commonTree_P:=grp_impl_IntOf.2.2.2.2.2.2.2.2.1 impl_IntOf_fn impl_TextOf_fn impl_mapOf_fn
theorem impl_MetricTree_fn:impl_MetricTree_P:=grp_impl_IntOf.2.2.2.2.2.2.2.2.2.1 impl_TextOf_fn impl_mapOf_fn impl_AmountText_fn impl_kindWord_fn
theorem impl_metricsTree_fn:impl_metricsTree_P:=grp_impl_IntOf.2.2.2.2.2.2.2.2.2.2.1 impl_MetricTree_fn
theorem impl_notesTree_fn:impl_notesTree_P:=grp_impl_IntOf.2.2.2.2.2.2.2.2.2.2.2 impl_TextOf_fn
end Go.Proofs.YtdlhidjphaaklaaGreat.V
end
section
namespace Go.Proofs.YtdlhidjphaaklaaGreat.P
open Go Go.RowKit Go.Proofs.YtdlhidjphaaklaaGreat Go.Proofs.YtdlhidjphaaklaaGreatW Go.Proofs.YtdlhidjphaaklaaGreatW.PrintWords Go.Proofs.YtdlhidjphaaklaaGreatW.PrintLast Go.Proofs.YtdlhidjphaaklaaGreatW.PrintMore
set_option maxHeartbeats 8000000 in
set_option maxRecDepth 100000 in
theorem impl_from.calls (a0:Int) (a1:Int) (a2:Int) (r:Bool) (w:World) (h:impl_from.f a0 a1 a2=some r) :
  Calls Tryz.prog 101 #[.int .i64 a0,.int .i64 a1,.int .i64 a2] w fun e w'=>e=.returned (.bool r)∧Drawn0 w w':=by
 have H:(if a0 ≥ a1 then (some (decide (a0≤a2))) else (some false))=some r:=h
 clear h
 by_cases c4:a0 ≥ a1
 ·rw [if_pos c4] at H
  have c4b0:decide (a1≤a0)=true:=decide_eq_true c4
  clear c4
  obtain rfl:=Option.some.inj H
  go_enter Tryz.func101,Tryz.ntmps101
  go_wp2
  go_ret
  exact ⟨by first|rfl|(simp; done)|(simp [*]; done),by repeat (first|exact Drawn0.refl _|apply Drawn0.step)⟩
 ·rw [if_neg c4] at H
  have c4b0:decide (a1≤a0)=false:=decide_eq_false c4
  clear c4
  obtain rfl:=Option.some.inj H
  go_enter Tryz.func101,Tryz.ntmps101
  go_wp2
  go_ret
  exact ⟨by first|rfl|(simp; done)|(simp [*]; done),by repeat (first|exact Drawn0.refl _|apply Drawn0.step)⟩
set_option maxHeartbeats 8000000 in
set_option maxRecDepth 100000 in
theorem impl_TextOk.calls (k:Nat) (a0:ByteArray) (r:Bool) (w:World) (h:impl_TextOk.f k a0=some r) :
  Calls Tryz.prog 164 #[.string a0] w fun e w'=>e=.returned (.bool r)∧Drawn0 w w':=by
 have H:(impl_TextOk.l0 k a0 (a0.size:Int) 0)=some r:=h
 clear h
 have H':=Aside0.mk H
 clear H
 go_enter Tryz.func164,Tryz.ntmps164
 go_wp2
 go_loopg [6] k (fun kq v6 w'=>∃ (x6_1:Int),v6=.int .i64 x6_1∧Aside0 (impl_TextOk.l0 kq a0 (a0.size:Int) x6_1=some r)∧Aside0 (kq≤k)∧Drawn0 w w')
 case atStart=>exact ⟨(0),(by first|rfl|(simp; done)|(simp [*]; done)),H',⟨Nat.le_refl _⟩,by repeat (first|exact Drawn0.refl _|apply Drawn0.step)⟩
 case round =>
  clear H'
  try clear c1
  obtain ⟨x6_1,rfl,HA,HK1,⟨m1,rfl⟩⟩:=hrel
  cases gk with
  |zero=>exact absurd HA.out (by simp [impl_TextOk.l0])
  |succ k1 =>
   have H:=HA.out
   clear HA
   simp only [impl_TextOk.l0] at H
   by_cases c2:x6_1<(a0.size:Int)
   ·rw [if_pos c2] at H
    have c2b0:decide (x6_1<(a0.size:Int))=true:=decide_eq_true c2
    clear c2
    by_cases c3:0≤x6_1
    ·rw [if_pos c3] at H
     have c3b0:decide (0≤x6_1)=true:=decide_eq_true c3
     clear c3
     by_cases c4:x6_1<(a0.size:Int)
     ·rw [if_pos c4] at H
      have c4b0:decide (x6_1<(a0.size:Int))=true:=decide_eq_true c4
      clear c4
      replace H:=Option.bind_eq_some_iff.mp H
      obtain ⟨t306,A60,H⟩:=H
      replace H:(if t306=true then (impl_TextOk.l0 k1 a0 (a0.size:Int) (wrap64 (x6_1+1))) else (some false))=some r:=H
      have A6:=Aside0.mk A60
      clear A60
      have HC7:=Aside0.mk H
      clear H
      have p5:0≤(x6_1:Int):=of_decide_eq_true (by first|(with_reducible assumption)|assumption)
      have q5:x6_1<(a0.size:Int):=of_decide_eq_true (by first|(with_reducible assumption)|assumption)
      have hx5:=bt_at a0 x6_1
      replace p5:=eq_true p5
      replace q5:=eq_true q5
      go_upto_if 14 with (first|((with_reducible refine gate_callee (f:=101) rfl ?_); refine goesL_ (some 13) rfl rfl Tryz.func101 (by kernel_rfl) rfl #[.int .i64 (wrap64 (bt a0 x6_1)),.int .i64 32,.int .i64 126] rfl (by (try simp only [List.map_toArray,List.map_cons,List.map_nil]); first|done|rfl|(simp only [List.length_drop,List.length_take]; rfl)) ?_; (with_reducible refine (impl_from.calls (wrap64 (bt a0 x6_1)) 32 126 t306 _ A6.out).mono ?_); rintro e w' ⟨rfl,⟨nd,rfl⟩⟩; refine ⟨_,rfl,?_⟩))
      (try simp only [Act.put,List.setIfInBounds_toArray,List.set_cons_zero,List.set_cons_succ])
      have H:=HC7.out
      clear HC7
      by_cases c8:t306=true
      ·subst c8
       have H1:(impl_TextOk.l0 k1 a0 (a0.size:Int) (wrap64 (x6_1+1)))=some r:=by rw [if_pos rfl] at H; exact H
       clear H
       have H:=H1
       clear H1
       have H':=Aside0.mk H
       clear H
       go_wp2
       go_roundg k1
       case measure=>have:=HK1.out; omega
       case rel=>exact ⟨(wrap64 (x6_1+1)),(by first|rfl|(simp; done)|(simp [*]; done)),H',⟨by have:=HK1.out; omega⟩,by repeat (first|exact Drawn0.refl _|apply Drawn0.step)⟩
      ·replace c8:=Bool.eq_false_iff.mpr c8
       subst c8
       have H1:(some false)=some r:=by rw [if_neg (show ¬ (false=true) by decide)] at H; exact H
       clear H
       have H:=H1
       clear H1
       obtain rfl:=Option.some.inj H
       go_wp2
       go_ret
       exact ⟨by first|rfl|(simp; done)|(simp [*]; done),by repeat (first|exact Drawn0.refl _|apply Drawn0.step)⟩
     ·rw [if_neg c4] at H
      exact absurd H (by simp)
    ·rw [if_neg c3] at H
     exact absurd H (by simp)
   ·rw [if_neg c2] at H
    have c2b0:decide (x6_1<(a0.size:Int))=false:=decide_eq_false c2
    clear c2
    obtain rfl:=Option.some.inj H
    go_wp2
    go_ret
    exact ⟨by first|rfl|(simp; done)|(simp [*]; done),by repeat (first|exact Drawn0.refl _|apply Drawn0.step)⟩
end Go.Proofs.YtdlhidjphaaklaaGreat.P
end
section
namespace Go.Proofs.YtdlhidjphaaklaaGreat.V
open Go Go.RowKit Go.Proofs.YtdlhidjphaaklaaGreat Go.Proofs.YtdlhidjphaaklaaGreat.P Go.Proofs.YtdlhidjphaaklaaGreatW
set_option maxRecDepth 100000
attribute [local irreducible] thenQ blockQ AWP AOps FinQ Draw One PrintWords.bt
end Go.Proofs.YtdlhidjphaaklaaGreat.V
namespace Go.Proofs.YtdlhidjphaaklaaGreat.P
open Go.RowKit Go.Proofs.YtdlhidjphaaklaaGreatW.PrintWords Go.Proofs.YtdlhidjphaaklaaGreatW.PrintLast Go.Proofs.YtdlhidjphaaklaaGreatW.PrintMore
theorem cast_beq0 (n:Nat):(((n:Int) == 0))=decide (n=0):=by
 by_cases h:n=0<;>simp [h]
set_option maxHeartbeats 8000000 in
set_option maxRecDepth 100000 in
theorem impl_shapeOk.k0 (a1:Int) (a2:ByteArray) (A3:Option Addr) (c3 n3:Nat) (A4:Option Addr) (c4 n4:Nat) (w:World) :
  Calls Tryz.prog 144 #[.agg #[.int .i64 0,.int .i64 a1,.string a2,.slice A3 n3 c3,.slice A4 n4 c4]] w fun e w'=>e=.returned (.bool (shB 0 a1 (a2.toList == []) n3 n4))∧Below w.heap.size w w':=by
 have hu:=Tryz.underlying32
 obtain ⟨b,hb⟩:∃ b,(a2.toList == [])=b:=⟨_,rfl⟩
 rw [hb]
 go_enter Tryz.func144,Tryz.ntmps144
 go_wp2
 go_loopg [4,5,63] 1 (fun kq v4 v5 v63 w'=>v63=.int .i64 0∧w'=(w.alloc (.cells #[.int .i64 0,.int .i64 a1,.string a2,.slice A3 n3 c3,.slice A4 n4 c4] 32)).alloc (.cells #[.int .i64 0,.int .i64 0,.string ⟨#[]⟩,.slice none 0 0,.slice none 0 0] 32))
 case atStart=>exact ⟨rfl,rfl⟩
 case round =>
  obtain ⟨rfl,rfl⟩:=hrel
  go_wp2
  all_goals
   go_ret
   refine ⟨?_,by repeat (first|(with_reducible first|exact Below.refl _ _|apply below_alloc|apply pw_below_drewN|apply below_drew1)|exact Below.refl _ _)⟩
   simp_all [shB,cast_beq0]
set_option maxHeartbeats 8000000 in
set_option maxRecDepth 100000 in
theorem impl_shapeOk.k1 (a1:Int) (a2:ByteArray) (A3:Option Addr) (c3 n3:Nat) (A4:Option Addr) (c4 n4:Nat) (w:World) :
  Calls Tryz.prog 144 #[.agg #[.int .i64 1,.int .i64 a1,.string a2,.slice A3 n3 c3,.slice A4 n4 c4]] w fun e w'=>e=.returned (.bool (shB 1 a1 (a2.toList == []) n3 n4))∧Below w.heap.size w w':=by
 have hu:=Tryz.underlying32
 obtain ⟨b,hb⟩:∃ b,(a2.toList == [])=b:=⟨_,rfl⟩
 rw [hb]
 by_cases g1:0≤a1
 ·have g1':decide (0≤a1)=true:=decide_eq_true g1
  by_cases g2:a1≤1
  ·have g2':decide (a1≤1)=true:=decide_eq_true g2
   go_enter Tryz.func144,Tryz.ntmps144
   go_wp2
   go_loopg [4,5,63] 1 (fun kq v4 v5 v63 w'=>v63=.int .i64 0∧w'=(w.alloc (.cells #[.int .i64 1,.int .i64 a1,.string a2,.slice A3 n3 c3,.slice A4 n4 c4] 32)).alloc (.cells #[.int .i64 1,.int .i64 a1,.string ⟨#[]⟩,.slice none 0 0,.slice none 0 0] 32))
   case atStart=>exact ⟨rfl,rfl⟩
   case round =>
    obtain ⟨rfl,rfl⟩:=hrel
    go_wp2
    all_goals
     go_ret
     refine ⟨?_,by repeat (first|(with_reducible first|exact Below.refl _ _|apply below_alloc|apply pw_below_drewN|apply below_drew1)|exact Below.refl _ _)⟩
     simp_all [shB,cast_beq0]
  ·have g2':decide (a1≤1)=false:=decide_eq_false g2
   go_enter Tryz.func144,Tryz.ntmps144
   go_wp2
   go_ret
   refine ⟨?_,by repeat (first|(with_reducible first|exact Below.refl _ _|apply below_alloc|apply pw_below_drewN|apply below_drew1)|exact Below.refl _ _)⟩
   simp_all [shB]
   try omega
 ·have g1':decide (0≤a1)=false:=decide_eq_false g1
  go_enter Tryz.func144,Tryz.ntmps144
  go_wp2
  go_ret
  refine ⟨?_,by repeat (first|(with_reducible first|exact Below.refl _ _|apply below_alloc|apply pw_below_drewN|apply below_drew1)|exact Below.refl _ _)⟩
  simp_all [shB]
  try omega
set_option maxHeartbeats 8000000 in
set_option maxRecDepth 100000 in
theorem impl_shapeOk.k2 (a1:Int) (a2:ByteArray) (A3:Option Addr) (c3 n3:Nat) (A4:Option Addr) (c4 n4:Nat) (w:World) :
  Calls Tryz.prog 144 #[.agg #[.int .i64 2,.int .i64 a1,.string a2,.slice A3 n3 c3,.slice A4 n4 c4]] w fun e w'=>e=.returned (.bool (shB 2 a1 (a2.toList == []) n3 n4))∧Below w.heap.size w w':=by
 have hu:=Tryz.underlying32
 obtain ⟨b,hb⟩:∃ b,(a2.toList == [])=b:=⟨_,rfl⟩
 rw [hb]
 by_cases g1 : -1000000000000≤a1
 ·have g1':decide (-1000000000000≤a1)=true:=decide_eq_true g1
  by_cases g2:a1≤1000000000000
  ·have g2':decide (a1≤1000000000000)=true:=decide_eq_true g2
   go_enter Tryz.func144,Tryz.ntmps144
   go_wp2
   go_loopg [4,5,63] 1 (fun kq v4 v5 v63 w'=>v63=.int .i64 0∧w'=(w.alloc (.cells #[.int .i64 2,.int .i64 a1,.string a2,.slice A3 n3 c3,.slice A4 n4 c4] 32)).alloc (.cells #[.int .i64 2,.int .i64 a1,.string ⟨#[]⟩,.slice none 0 0,.slice none 0 0] 32))
   case atStart=>exact ⟨rfl,rfl⟩
   case round =>
    obtain ⟨rfl,rfl⟩:=hrel
    go_wp2
    all_goals
     go_ret
     refine ⟨?_,by repeat (first|(with_reducible first|exact Below.refl _ _|apply below_alloc|apply pw_below_drewN|apply below_drew1)|exact Below.refl _ _)⟩
     simp_all [shB,cast_beq0]
  ·have g2':decide (a1≤1000000000000)=false:=decide_eq_false g2
   go_enter Tryz.func144,Tryz.ntmps144
   go_wp2
   go_ret
   refine ⟨?_,by repeat (first|(with_reducible first|exact Below.refl _ _|apply below_alloc|apply pw_below_drewN|apply below_drew1)|exact Below.refl _ _)⟩
   simp_all [shB]
   try omega
 ·have g1':decide (-1000000000000≤a1)=false:=decide_eq_false g1
  go_enter Tryz.func144,Tryz.ntmps144
  go_wp2
  go_ret
  refine ⟨?_,by repeat (first|(with_reducible first|exact Below.refl _ _|apply below_alloc|apply pw_below_drewN|apply below_drew1)|exact Below.refl _ _)⟩
  simp_all [shB]
  try omega
set_option maxHeartbeats 8000000 in
set_option maxRecDepth 100000 in
theorem impl_shapeOk.k3 (a1:Int) (a2:ByteArray) (A3:Option Addr) (c3 n3:Nat) (A4:Option Addr) (c4 n4:Nat) (w:World) (k:Nat) (ht:impl_TextOk.f k a2=some true) :
  Calls Tryz.prog 144 #[.agg #[.int .i64 3,.int .i64 a1,.string a2,.slice A3 n3 c3,.slice A4 n4 c4]] w fun e w'=>e=.returned (.bool (shB 3 a1 (a2.toList == []) n3 n4))∧Below w.heap.size w w':=by
 have hu:=Tryz.underlying32
 obtain ⟨b,hb⟩:∃ b,(a2.toList == [])=b:=⟨_,rfl⟩
 rw [hb]
 go_enter Tryz.func144,Tryz.ntmps144
 go_wp2_with (go_at_call 164; refine (impl_TextOk.calls k a2 true _ ht).mono ?_; rintro e w' ⟨rfl,⟨nd,rfl⟩⟩)
 go_loopg [4,5,63] 1 (fun kq v4 v5 v63 w'=>v63=.int .i64 0∧w'=(((w.alloc (.cells #[.int .i64 3,.int .i64 a1,.string a2,.slice A3 n3 c3,.slice A4 n4 c4] 32)).alloc (.cells #[.int .i64 3,.int .i64 0,.string ⟨#[]⟩,.slice none 0 0,.slice none 0 0] 32)).drewN nd).setCell ⟨w.heap.size+1,2,none⟩ (.string a2))
 case atStart=>exact ⟨rfl,rfl⟩
 case round =>
  obtain ⟨rfl,rfl⟩:=hrel
  go_wp2
  all_goals
   go_ret
   refine ⟨?_,(pw_below_drewN (below_alloc (below_alloc (Below.refl _ _) _) _) _).setCell (by simp) _⟩
   simp_all [shB,cast_beq0]
set_option maxHeartbeats 8000000 in
set_option maxRecDepth 100000 in
theorem impl_shapeOk.k3f (a1:Int) (a2:ByteArray) (A3:Option Addr) (c3 n3:Nat) (A4:Option Addr) (c4 n4:Nat) (w:World) (k:Nat) (ht:impl_TextOk.f k a2=some false) :
  Calls Tryz.prog 144 #[.agg #[.int .i64 3,.int .i64 a1,.string a2,.slice A3 n3 c3,.slice A4 n4 c4]] w fun e w'=>e=.returned (.bool false)∧Below w.heap.size w w':=by
 have hu:=Tryz.underlying32
 obtain ⟨b,hb⟩:∃ b,(a2.toList == [])=b:=⟨_,rfl⟩
 go_enter Tryz.func144,Tryz.ntmps144
 go_wp2_with (go_at_call 164; refine (impl_TextOk.calls k a2 false _ ht).mono ?_; rintro e w' ⟨rfl,⟨nd,rfl⟩⟩)
 go_ret
 refine ⟨?_,by repeat (first|(with_reducible first|exact Below.refl _ _|apply below_alloc|apply pw_below_drewN|apply below_drew1)|exact Below.refl _ _)⟩
 simp_all [shB]
 try omega
set_option maxHeartbeats 8000000 in
set_option maxRecDepth 100000 in
theorem impl_shapeOk.k4 (a1:Int) (a2:ByteArray) (A3:Option Addr) (c3 n3:Nat) (A4:Option Addr) (c4 n4:Nat) (w:World) :
  Calls Tryz.prog 144 #[.agg #[.int .i64 4,.int .i64 a1,.string a2,.slice A3 n3 c3,.slice A4 n4 c4]] w fun e w'=>e=.returned (.bool (shB 4 a1 (a2.toList == []) n3 n4))∧Below w.heap.size w w':=by
 have hu:=Tryz.underlying32
 obtain ⟨b,hb⟩:∃ b,(a2.toList == [])=b:=⟨_,rfl⟩
 rw [hb]
 go_enter Tryz.func144,Tryz.ntmps144
 go_wp2
 go_loopg [4,5,63] 1 (fun kq v4 v5 v63 w'=>v63=.int .i64 0∧w'=(w.alloc (.cells #[.int .i64 4,.int .i64 a1,.string a2,.slice A3 n3 c3,.slice A4 n4 c4] 32)).alloc (.cells #[.int .i64 4,.int .i64 0,.string ⟨#[]⟩,.slice none 0 0,.slice A4 n4 c4] 32))
 case atStart=>exact ⟨rfl,rfl⟩
 case round =>
  obtain ⟨rfl,rfl⟩:=hrel
  go_wp2
  all_goals
   go_ret
   refine ⟨?_,by repeat (first|(with_reducible first|exact Below.refl _ _|apply below_alloc|apply pw_below_drewN|apply below_drew1)|exact Below.refl _ _)⟩
   simp_all [shB,cast_beq0]
set_option maxHeartbeats 8000000 in
set_option maxRecDepth 100000 in
theorem impl_shapeOk.k5f (a1:Int) (a2:ByteArray) (A3:Option Addr) (c3 n3:Nat) (A4:Option Addr) (c4 n4:Nat) (w:World) (hne:¬ (n3=n4)) :
  Calls Tryz.prog 144 #[.agg #[.int .i64 5,.int .i64 a1,.string a2,.slice A3 n3 c3,.slice A4 n4 c4]] w fun e w'=>e=.returned (.bool false)∧Below w.heap.size w w':=by
 have hu:=Tryz.underlying32
 obtain ⟨b,hb⟩:∃ b,(a2.toList == [])=b:=⟨_,rfl⟩
 have hne':¬ ((n3:Int)=(n4:Int)):=by omega
 go_enter Tryz.func144,Tryz.ntmps144
 go_wp2
 go_ret
 refine ⟨?_,by repeat (first|(with_reducible first|exact Below.refl _ _|apply below_alloc|apply pw_below_drewN|apply below_drew1)|exact Below.refl _ _)⟩
 simp_all [shB]
 try omega
set_option maxHeartbeats 8000000 in
set_option maxRecDepth 100000 in
theorem impl_shapeOk.kx (a1:Int) (a2:ByteArray) (A3:Option Addr) (c3 n3:Nat) (A4:Option Addr) (c4 n4:Nat) (w:World) (a0:Int) (h0:¬ (a0=0)) (h1:¬ (a0=1)) (h2:¬ (a0=2)) (h3:¬ (a0=3)) (h4:¬ (a0=4)) (h5:¬ (a0=5)) :
  Calls Tryz.prog 144 #[.agg #[.int .i64 a0,.int .i64 a1,.string a2,.slice A3 n3 c3,.slice A4 n4 c4]] w fun e w'=>e=.returned (.bool false)∧Below w.heap.size w w':=by
 have hu:=Tryz.underlying32
 obtain ⟨b,hb⟩:∃ b,(a2.toList == [])=b:=⟨_,rfl⟩
 go_enter Tryz.func144,Tryz.ntmps144
 go_wp2
 go_ret
 refine ⟨?_,by repeat (first|(with_reducible first|exact Below.refl _ _|apply below_alloc|apply pw_below_drewN|apply below_drew1)|exact Below.refl _ _)⟩
 simp_all [shB]
 try omega
theorem of_not_true {b:Bool} (h:(!b)=true):b=false:=by simpa using h
theorem of_not_false {b:Bool} (h:(!b)=false):b=true:=by simpa using h
set_option maxHeartbeats 8000000 in
set_option maxRecDepth 100000 in
theorem impl_shapeOk.k5 (k:Nat) (a1:Int) (a2:ByteArray) (A3:Option Addr) (c3:Nat) (l3:List ByteArray) (A4:Option Addr) (c4:Nat) (r:Bool) (w:World) (hr:Kd.C Kd.string w A3 l3.length l3) (hc:l3.length≤c3)
  (h:impl_shapeOk.l0 (decide (a1=0) && (a2.toList == [])) k l3 0=some r) :
  Calls Tryz.prog 144 #[.agg #[.int .i64 5,.int .i64 a1,.string a2,.slice A3 l3.length c3,.slice A4 l3.length c4]] w fun e w'=>e=.returned (.bool r)∧Below w.heap.size w w':=by
 have hu:=Tryz.underlying32
 obtain ⟨b,hb⟩:∃ b,(a2.toList == [])=b:=⟨_,rfl⟩
 rw [hb] at h
 have HC:=Aside0.mk hc
 have HR:=Aside0.mk hr
 have HH:=Aside0.mk h
 clear hr hc h
 go_enter Tryz.func144,Tryz.ntmps144
 go_wp2
 go_region
 go_wp2
 obtain ⟨W,hW⟩:∃ W,W=((w.alloc (.cells #[.int .i64 5,.int .i64 a1,.string a2,.slice A3 l3.length c3,.slice A4 l3.length c4] 32)).alloc (.cells #[.int .i64 5,.int .i64 0,.string ⟨#[]⟩,.slice A3 l3.length c3,.slice A4 l3.length c4] 32)).drew:=⟨_,rfl⟩
 have hb:Below w.heap.size w W:=by rw [hW]; exact below_drew1 (below_alloc (below_alloc (Below.refl _ _) _) _)
 have f1:W.cell? ⟨w.heap.size,1,none⟩=some (.int .i64 a1):=by rw [hW]; go_simp
 have f2:W.cell? ⟨w.heap.size,2,none⟩=some (.string a2):=by rw [hW]; go_simp
 have f3:W.cell? ⟨w.heap.size,3,none⟩=some (.slice A3 l3.length c3):=by rw [hW]; go_simp
 have f4:W.cell? ⟨w.heap.size,4,none⟩=some (.slice A4 l3.length c4):=by rw [hW]; go_simp
 have g1:W.cell? ⟨w.heap.size+1,1,none⟩=some (.int .i64 0):=by rw [hW]; go_simp
 have g2:W.cell? ⟨w.heap.size+1,2,none⟩=some (.string ⟨#[]⟩):=by rw [hW]; go_simp
 have g3:W.cell? ⟨w.heap.size+1,3,none⟩=some (.slice A3 l3.length c3):=by rw [hW]; go_simp
 have g4:W.cell? ⟨w.heap.size+1,4,none⟩=some (.slice A4 l3.length c4):=by rw [hW]; go_simp
 have HB:=Aside0.mk hb
 have HR1:=Aside0.mk (Kd.C_below HR.out hb)
 rw [← hW]
 clear hW hb
 have hlen:(l3.length:Int)≤9223372036854775807:=by have:=HR.out.2.1; omega
 go_loopg [4,5,63] k (fun kq v4 v5 v63 w'=>∃ i:Nat,v63=.int .i64 i∧Aside0 (impl_shapeOk.l0 (decide (a1=0) && b) kq l3 i=some r)∧Aside0 (i≤l3.length)∧Drawn0 W w')
 case atStart=>exact ⟨0,rfl,HH,⟨Nat.zero_le _⟩,Drawn0.refl _⟩
 case round =>
  obtain ⟨i,rfl,HA,HI,⟨m1,rfl⟩⟩:=hrel
  cases gk with
  |zero=>exact absurd HA.out (by simp [impl_shapeOk.l0])
  |succ k1 =>
   have H:=HA.out
   clear HA
   simp only [impl_shapeOk.l0] at H
   by_cases c2:i<l3.length
   ·rw [if_pos c2] at H
    obtain ⟨t,A,H⟩:=Option.bind_eq_some_iff.mp H
    obtain ⟨ad,e0,x0⟩:=Kd.at_string HR1.out (i:Int) (by omega) (by omega)
    cases e0
    have AA:=Aside0.mk A
    clear A
    rw [Int.toNat_natCast] at x0
    by_cases c0:0<i
    ·rw [if_pos c0] at H
     have c0b:decide (0<(i:Int))=true:=decide_eq_true (by omega)
     obtain ⟨ad1,e1,x1⟩:=Kd.at_string HR1.out ((i:Int)-1) (by omega) (by omega)
     obtain rfl:ad=ad1:=by injection e1
     have hsub:IntKind.i64.wrap ((i:Int)-1)=(i:Int)-1:=by rw [IntKind.wrap_i64]; omega
     have h0:0≤(i:Int)-1:=by omega
     have htn:((i:Int)-1).toNat=i-1:=by omega
     rw [htn] at x1
     clear c0
     cases t with
     |true =>
      rw [if_pos rfl] at H
      go_wp2_with (go_at_call 164; refine (impl_TextOk.calls k1 _ true _ AA.out).mono ?_; rintro e w' ⟨rfl,⟨nd,rfl⟩⟩)
      ·have hlt:=of_not_true ‹(!_)=true›
       rw [if_neg (by rw [hlt]; decide)] at H
       obtain rfl:=Option.some.inj H
       go_ret
       exact ⟨rfl,HB.out.trans (by repeat (first|(with_reducible first|exact Below.refl _ _|apply below_alloc|apply pw_below_drewN|apply below_drew1)|exact Below.refl _ _))⟩
      ·have hlt:=of_not_false ‹(!_)=false›
       rw [if_pos hlt] at H
       have HA2:=Aside0.mk H
       clear H
       go_roundg k1
       case rel=>exact ⟨i+1,by go_num,HA2,⟨by omega⟩,by repeat (first|exact Drawn0.refl _|apply Drawn0.step)⟩
       case measure=>omega
     |false =>
      rw [if_neg (by decide)] at H
      obtain rfl:=Option.some.inj H
      go_wp2_with (go_at_call 164; refine (impl_TextOk.calls k1 _ false _ AA.out).mono ?_; rintro e w' ⟨rfl,⟨nd,rfl⟩⟩)
      go_ret
      exact ⟨rfl,HB.out.trans (by repeat (first|(with_reducible first|exact Below.refl _ _|apply below_alloc|apply pw_below_drewN|apply below_drew1)|exact Below.refl _ _))⟩
    ·rw [if_neg c0] at H
     obtain rfl:i=0:=by omega
     rw [Addr.add_zero'] at x0
     have x00:W.cell? ad=some (.string (rdOf ByteArray.empty l3 0)):=x0
     clear x0
     have A0:impl_TextOk.f k1 (rdOf ByteArray.empty l3 0)=some t:=AA.out
     have AA:=Aside0.mk A0
     clear A0
     cases t with
     |true =>
      rw [if_pos rfl] at H
      have HA2:=Aside0.mk H
      clear H
      go_wp2_with (go_at_call 164; refine (impl_TextOk.calls k1 _ true _ AA.out).mono ?_; rintro e w' ⟨rfl,⟨nd,rfl⟩⟩)
      go_roundg k1
      case rel=>exact ⟨1,by go_num,HA2,⟨by omega⟩,by repeat (first|exact Drawn0.refl _|apply Drawn0.step)⟩
      case measure=>omega
     |false =>
      rw [if_neg (by decide)] at H
      obtain rfl:=Option.some.inj H
      go_wp2_with (go_at_call 164; refine (impl_TextOk.calls k1 _ false _ AA.out).mono ?_; rintro e w' ⟨rfl,⟨nd,rfl⟩⟩)
      go_ret
      exact ⟨rfl,HB.out.trans (by repeat (first|(with_reducible first|exact Below.refl _ _|apply below_alloc|apply pw_below_drewN|apply below_drew1)|exact Below.refl _ _))⟩
   ·rw [if_neg c2] at H
    obtain rfl:=Option.some.inj H
    have HI2:i=l3.length:=by have:=HI.out; omega
    subst HI2
    go_wp2
    all_goals
     go_ret
     refine ⟨?_,HB.out.trans (by repeat (first|(with_reducible first|exact Below.refl _ _|apply below_alloc|apply pw_below_drewN|apply below_drew1)|exact Below.refl _ _))⟩
     simp_all
theorem impl_shapeOk_given (k:Nat) (a0_0:Int) (a0_1:Int) (a0_2:ByteArray) (A0_3:Option Addr) (c0_3:Nat) (l0_3:List ByteArray) (A0_4:Option Addr) (c0_4:Nat) (l0_4:List S32) (r:Bool) (w:World) (hr0_3:Kd.C Kd.string w A0_3 l0_3.length l0_3) (hc0_3:l0_3.length≤c0_3) (hr0_4:Kd.C k32 w A0_4 l0_4.length l0_4) (hc0_4:l0_4.length≤c0_4) (h:impl_shapeOk.f k a0_0 a0_1 a0_2 l0_3 l0_4=some r) :
  Calls Tryz.prog 144 #[.agg #[.int .i64 a0_0,.int .i64 a0_1,.string a0_2,.slice A0_3 l0_3.length c0_3,.slice A0_4 l0_4.length c0_4]] w fun e w'=>e=.returned (.bool r)∧Below w.heap.size w w':=by
 unfold impl_shapeOk.f at h
 by_cases h3:a0_0=3
 ·rw [if_pos h3] at h
  subst h3
  obtain ⟨t,ht,h⟩:=Option.bind_eq_some_iff.mp h
  cases t with
  |true=>rw [if_pos rfl] at h; obtain rfl:=Option.some.inj h; exact impl_shapeOk.k3 _ _ _ _ _ _ _ _ _ k ht
  |false=>rw [if_neg (by decide)] at h; obtain rfl:=Option.some.inj h; exact impl_shapeOk.k3f _ _ _ _ _ _ _ _ _ k ht
 ·rw [if_neg h3] at h
  by_cases h5:a0_0=5
  ·rw [if_pos h5] at h
   subst h5
   by_cases hl:l0_3.length=l0_4.length
   ·rw [if_pos hl] at h
    rw [← hl]
    exact impl_shapeOk.k5 k _ _ _ _ _ _ _ _ _ hr0_3 hc0_3 h
   ·rw [if_neg hl] at h
    obtain rfl:=Option.some.inj h
    exact impl_shapeOk.k5f _ _ _ _ _ _ _ _ _ hl
  ·rw [if_neg h5] at h
   obtain rfl:=Option.some.inj h
   by_cases h0:a0_0=0
   ·subst h0; exact impl_shapeOk.k0 _ _ _ _ _ _ _ _ _
   ·by_cases h1:a0_0=1
    ·subst h1; exact impl_shapeOk.k1 _ _ _ _ _ _ _ _ _
    ·by_cases h2:a0_0=2
     ·subst h2; exact impl_shapeOk.k2 _ _ _ _ _ _ _ _ _
     ·by_cases h4:a0_0=4
      ·subst h4; exact impl_shapeOk.k4 _ _ _ _ _ _ _ _ _
      ·have e:shB a0_0 a0_1 (a0_2.toList == []) l0_3.length l0_4.length=false:=by unfold shB; rw [if_neg h0,if_neg h1,if_neg h2,if_neg h3,if_neg h4,if_neg h5]
       rw [e]
       exact impl_shapeOk.kx _ _ _ _ _ _ _ _ _ _ h0 h1 h2 h3 h4 h5
end Go.Proofs.YtdlhidjphaaklaaGreat.P
namespace Go.Proofs.YtdlhidjphaaklaaGreat.V
open Go Go.RowKit Go.Proofs.YtdlhidjphaaklaaGreat Go.Proofs.YtdlhidjphaaklaaGreat.P Go.Proofs.YtdlhidjphaaklaaGreatW
theorem impl_shapeOk_fn {k:Nat} {a0_0:Int} {a0_1:Int} {a0_2:ByteArray} {l0_3:List ByteArray} {l0_4:List S32} {r:Bool} (H:impl_shapeOk.f k a0_0 a0_1 a0_2 l0_3 l0_4=some r):Fn Tryz.prog 144 [.agg [.val (.int .i64 a0_0),.val (.int .i64 a0_1),.val (.string a0_2),.row (l0_3.map (cS)) .no,.row (l0_4.map (c32)) .no]] [] (.val (.bool r)) []:=by
 refine fn_below (fun F gs w vs hv=>?_) rfl
 obtain ⟨vg1,wg1,rfl,g1,g2⟩:=reps_cons hv
 obtain ⟨ug3,rfl,g3⟩:=rep_agg g1
 obtain ⟨vg4,wg4,rfl,g4,g5⟩:=reps_cons g3
 obtain rfl:=(rep_val g4).1
 obtain ⟨vg6,wg6,rfl,g6,g7⟩:=reps_cons g5
 obtain rfl:=(rep_val g6).1
 obtain ⟨vg8,wg8,rfl,g8,g9⟩:=reps_cons g7
 obtain rfl:=(rep_val g8).1
 obtain ⟨vg10,wg10,rfl,g10,g11⟩:=reps_cons g9
 obtain ⟨A0_3,c0_3,rfl,hc0_3,hr0_3⟩:=row_of (ka_string).len (fun x _ cs h=>(ka_string).of h) g10
 obtain ⟨vg12,wg12,rfl,g12,g13⟩:=reps_cons g11
 obtain ⟨A0_4,c0_4,rfl,hc0_4,hr0_4⟩:=row_of (ka32).len (fun x _ cs h=>(ka32).of h) g12
 obtain rfl:=reps_nil g13
 obtain rfl:=reps_nil g2
 refine (impl_shapeOk_given _ _ _ _ A0_3 c0_3 _ A0_4 c0_4 _ _ w hr0_3 hc0_3 hr0_4 hc0_4 H).mono ?_
 rintro e w' ⟨rfl,h1_⟩
 exact ⟨_,rfl,(Rep.val _ rfl),h1_⟩
end Go.Proofs.YtdlhidjphaaklaaGreat.V
end
section
namespace Go.Proofs.YtdlhidjphaaklaaGreat.V
open Go Go.RowKit Go.Proofs.YtdlhidjphaaklaaGreat Go.Proofs.YtdlhidjphaaklaaGreat.P Go.Proofs.YtdlhidjphaaklaaGreatW
set_option maxRecDepth 100000
attribute [local irreducible] thenQ blockQ AWP AOps FinQ Draw One PrintWords.bt
end Go.Proofs.YtdlhidjphaaklaaGreat.V
namespace Go.Proofs.YtdlhidjphaaklaaGreat.P
open Go.RowKit Go.Proofs.YtdlhidjphaaklaaGreatW.PrintWords Go.Proofs.YtdlhidjphaaklaaGreatW.PrintLast Go.Proofs.YtdlhidjphaaklaaGreatW.PrintMore
theorem strings_Join_given (A0:Option Addr) (c0:Nat) (l0:List ByteArray) (a1:ByteArray) (r:ByteArray) (w:World) (hr0:Kd.C Kd.string w A0 l0.length l0) (hc0:l0.length≤c0) (h:strings_Join.f l0 a1=some r) :
  Calls Tryz.prog 172 #[.slice A0 l0.length c0,.string a1] w fun e w'=>e=.returned (.string r)∧Below w.heap.size w w':=by
 unfold strings_Join.f at h
 split at h
 ·rename_i h1
  split at h
  ·rename_i h2
   obtain rfl:=Option.some.inj h
   cases l0 with
   |nil=>exact (Tryz.strings_Join_none A0 c0 a1 w).mono fun e w' ⟨he,hw⟩=>⟨he,hw ▸ Below.refl _ _⟩
   |cons x r =>
    obtain ⟨ad,rfl,x0⟩:=Kd.at_string hr0 0 (by omega) (by simp)
    have ha:ad.spot=none:=by
     have e0:((0:Int).toNat)=0:=rfl
     rw [e0,Addr.add_zero'] at x0
     unfold World.cell? at x0
     split at x0
     ·split at x0
      ·cases x0
      ·rename_i hs
       simpa using hs
     ·cases x0
    obtain ⟨bk,o,sp⟩:=ad
    obtain rfl:sp=none:=ha
    refine Tryz.strings_Join bk o c0 (x::r) a1 w (fun j y hj=>?_) (World.block_lt_of_cell? w _ x0) h1 hc0 h2
    have hj2:=(List.getElem?_eq_some_iff.1 hj).1
    obtain ⟨ad2,e2,x2⟩:=Kd.at_string hr0 (j:Int) (by omega) (by omega)
    injection e2 with e2
    subst e2
    rw [Int.toNat_natCast,Addr.add_lit] at x2
    rw [x2]
    have e3:rdOf ByteArray.empty (x::r) (j:Int)=y:=by
     unfold rdOf
     rw [Int.toNat_natCast,List.getD_eq_getElem?_getD,hj]
     rfl
    rw [e3]
  ·cases h
 ·cases h
end Go.Proofs.YtdlhidjphaaklaaGreat.P
namespace Go.Proofs.YtdlhidjphaaklaaGreat.V
open Go Go.RowKit Go.Proofs.YtdlhidjphaaklaaGreat Go.Proofs.YtdlhidjphaaklaaGreat.P Go.Proofs.YtdlhidjphaaklaaGreatW
theorem strings_Join_fn {l0:List ByteArray} {a1:ByteArray} {r:ByteArray} (H:strings_Join.f l0 a1=some r):Fn Tryz.prog 172 [.row (l0.map (cS)) .no,.val (.string a1)] [] (.val (.string r)) []:=by
 refine fn_below (fun F gs w vs hv=>?_) rfl
 obtain ⟨vg1,wg1,rfl,g1,g2⟩:=reps_cons hv
 obtain ⟨A0,c0,rfl,hc0,hr0⟩:=row_of (ka_string).len (fun x _ cs h=>(ka_string).of h) g1
 obtain ⟨vg3,wg3,rfl,g3,g4⟩:=reps_cons g2
 obtain rfl:=(rep_val g3).1
 obtain rfl:=reps_nil g4
 refine (strings_Join_given A0 c0 _ _ _ w hr0 hc0 H).mono ?_
 rintro e w' ⟨rfl,h1_⟩
 exact ⟨_,rfl,(Rep.val _ rfl),h1_⟩
end Go.Proofs.YtdlhidjphaaklaaGreat.V
end
section
namespace Go.Proofs.YtdlhidjphaaklaaGreat.V
open Go Go.RowKit Go.Proofs.YtdlhidjphaaklaaGreat Go.Proofs.YtdlhidjphaaklaaGreat.P Go.Proofs.YtdlhidjphaaklaaGreatW
set_option maxRecDepth 100000
attribute [local irreducible] thenQ blockQ AWP AOps FinQ Draw One PrintWords.bt
set_option maxHeartbeats 8000000 in
theorem impl_Node_175_all (k:Nat):(∀ {a0_0:Int} {a0_1:Int} {a0_2:ByteArray} {l0_3:List ByteArray} {l0_4:List (S32)} {r:Bool} (H:impl_allShapes.f k a0_0 a0_1 a0_2 l0_3 l0_4=some r),Fn Tryz.prog 97 [.agg [.val (.int .i64 a0_0),.val (.int .i64 a0_1),.val (.string a0_2),.row (l0_3.map (cS)) .no,.row (l0_4.map (c32)) .no]] [] (.val (.bool r)) [])∧(∀ {l0:List (S32)} {r:Bool} (H:impl_Node_145.f k l0=some r),Fn Tryz.prog 145 [.row (l0.map (c32)) .no,.val (.func (.func 146) #[] #[])] [] (.val (.bool r)) [])∧(∀ {a0_0:Int} {a0_1:Int} {a0_2:ByteArray} {l0_3:List ByteArray} {l0_4:List (S32)} {r:Bool} (H:impl_allShapes_1.f k a0_0 a0_1 a0_2 l0_3 l0_4=some r),Fn Tryz.prog 146 [.agg [.val (.int .i64 a0_0),.val (.int .i64 a0_1),.val (.string a0_2),.row (l0_3.map (cS)) .no,.row (l0_4.map (c32)) .no]] [] (.val (.bool r)) [])∧(∀ {l0:List (S32)} {r:Int} (H:impl_Node_175.f k l0=some r),Fn Tryz.prog 175 [.row (l0.map (c32)) .no,.val (.func (.func 146) #[] #[])] [] (.val (.int .i64 r)) []):=by
 induction k using Nat.strongRecOn with
 |_ k ih =>
 cases k
 ·refine ⟨by intros; rename_i H; simp [impl_allShapes.f] at H,by intros; rename_i H; simp [impl_Node_145.f] at H,by intros; rename_i H; simp [impl_allShapes_1.f] at H,by intros; rename_i H; simp [impl_Node_175.f] at H⟩
 rename_i k
 refine ⟨?_,?_,?_,?_⟩
 ·intros; rename_i H
  refine w_fn (n:=11) Tryz.func97 rfl rfl rfl rfl rfl ?_
  unfold impl_allShapes.f at H; try dsimp only at H
  repeat' first
   |exact WB.nil _
   |refine WB.cons ?_ ?_
   |exact WL.nil
   |refine WL.cons ?_ ?_
   |exact W1.same _
   |exact W1.no _ _
   |exact W1.any _ rfl
   |exact sub3_nil
   |refine sub3_cons rfl ?_ ?_
   |rfl
   |(refine one_id ?_; first
    |refine s_move rfl ?_
    |refine s_load rfl rfl rfl ?_
    |refine s_fldb rfl ?_
    |refine s_add64 rfl rfl ?_
    |refine s_bin rfl rfl rfl ?_
    |refine s_assign rfl ?_
    |refine s_pick rfl rfl ?_
    |refine s_loadr rfl rfl rfl ?_
    |refine s_not rfl ?_
    |refine s_lenm rfl ?_
    |(have hb:=Option.bind_eq_some_iff.1 H; clear H; obtain ⟨t,hA,H⟩:=hb; refine s_call rfl (by first|exact impl_shapeOk_fn hA|exact (ih _ (by omega)).1 hA|exact (ih _ (by omega)).2.1 hA|exact (ih _ (by omega)).2.2.1 hA|exact (ih _ (by omega)).2.2.2 hA) (by first|rfl|(simp only [L25_eq,L32_eq,c25_eq,c32_eq]; rfl)|(simp only [List.map_cons,List.map_nil,L25_eq,L32_eq,c25_eq,c32_eq]; rfl)) rfl rfl rfl ?_)
    )
   |(refine q_id ?_; first
    |refine q_box rfl rfl rfl rfl rfl rfl rfl ?_
    |refine q_one rfl rfl rfl rfl rfl ?_
    |refine q_nil rfl ?_
    |(refine q_run rfl rfl rfl rfl ?_ rfl rfl ?_; focus (first|with_reducible rfl|(simp only [Bool.not_true,Bool.not_false]; done)))
    |(refine q_skip rfl rfl rfl rfl ?_ rfl rfl ?_; focus (first|with_reducible rfl|(simp only [Bool.not_true,Bool.not_false]; done)))
    )
   |(refine w_id ?_; first
    |refine w_seq rfl ?_
    |refine w_region rfl ?_
    |refine w_block rfl ?_
    |refine w_ret rfl ?_
    |refine w_skip rfl ?_
    |refine w_exit rfl ?_
    |(refine w_true rfl rfl ?_ ?_; focus (first|with_reducible rfl|(simp only [Bool.not_true,Bool.not_false]; done)))
    |(refine w_false rfl rfl ?_ ?_; focus (first|with_reducible rfl|(simp only [Bool.not_true,Bool.not_false]; done)))
    )
   |(refine t_id ?_; first
    |refine t_norm ?_
    |refine t_exit ?_
    |refine t_ret ?_
    )
   |(refine b_id ?_; first
    |refine b_here ?_
    |refine b_norm ?_
    |refine b_ret ?_
    )
   |(simp (disch:=assumption) only [decide_eq_true,decide_eq_false])
   |(obtain rfl:=Option.some.inj H)
   |exact fq1b (.inr rfl) rfl (by first|exact res_tmp rfl|exact res_cell rfl rfl rfl) rfl rfl rfl (.inl rfl)
   |exact fq1b (.inr rfl) rfl (by first|exact res_tmp rfl|exact res_cell rfl rfl rfl) rfl rfl rfl (.inr ⟨_,_,rfl,by decide⟩)
   |exact W1.same _
   |exact W1.no _ _
   |exact W1.any _ rfl
   |exact sub3_nil
   |(refine sub3_cons rfl ?_ ?_)
   |(simp only [lit_list,wrapK_i64,wrapK_i32,wrapK_u8,wrap64_u8,Int.reduceToNat,Int.toNat_natCast])
   |(simp only [List.map_append,List.map_cons,List.map_nil,Int.zero_sub,wrapK_u8,wrap64_u8,L25_eq,L32_eq,c25_eq,c32_eq]; first|exact W1.same _|exact W1.no _ _|exact W1.any _ rfl)
   |(simp only [List.length_append,List.length_map,List.length_cons,List.length_nil]; rfl)
   |(simp (disch:=assumption) only [if_pos,if_neg] at H)
   |(simp only [Option.bind_some] at H)
   |(simp only [beq_dec,bne_dec,decide_eq_true_eq] at H)
   |(have hh:=ite_none_ H; clear H; obtain ⟨hc,H⟩:=hh)
   |(have hh:=ite_none2_ H; clear H; obtain ⟨hc,H⟩:=hh)
   |(refine (ite_some_ H).elim (fun hh=>?_) (fun hh=>?_)<;>clear H<;>obtain ⟨hc,H⟩:=hh<;>first|(cases H; done)|(cases hc; done)|(exact absurd rfl hc)|(subst hc; done)|rw [decide_eq_true hc]|rw [decide_eq_false hc]|rw [@decide_eq_true _ (_) hc]|rw [@decide_eq_false _ (_) hc]|subst hc|(obtain rfl:=Bool.eq_false_iff.2 hc)|rw [hc]|rw [Bool.eq_false_iff.2 hc])
   |(simp only [bne_dec,beq_dec])
 ·intros; rename_i H
  refine w_fn (n:=9) Tryz.func145 rfl rfl rfl rfl rfl ?_
  unfold impl_Node_145.f at H; try dsimp only at H
  repeat' first
   |exact WB.nil _
   |refine WB.cons ?_ ?_
   |exact WL.nil
   |refine WL.cons ?_ ?_
   |exact W1.same _
   |exact W1.no _ _
   |exact W1.any _ rfl
   |exact sub3_nil
   |refine sub3_cons rfl ?_ ?_
   |rfl
   |(refine one_id ?_; first
    |refine s_move rfl ?_
    |refine s_load rfl rfl rfl ?_
    |refine s_fldb rfl ?_
    |refine s_add64 rfl rfl ?_
    |refine s_bin rfl rfl rfl ?_
    |refine s_assign rfl ?_
    |refine s_pick rfl rfl ?_
    |refine s_loadr rfl rfl rfl ?_
    |refine s_not rfl ?_
    |refine s_lenm rfl ?_
    |(have hb:=Option.bind_eq_some_iff.1 H; clear H; obtain ⟨t,hA,H⟩:=hb; refine s_call rfl (by first|exact impl_shapeOk_fn hA|exact (ih _ (by omega)).1 hA|exact (ih _ (by omega)).2.1 hA|exact (ih _ (by omega)).2.2.1 hA|exact (ih _ (by omega)).2.2.2 hA) (by first|rfl|(simp only [L25_eq,L32_eq,c25_eq,c32_eq]; rfl)|(simp only [List.map_cons,List.map_nil,L25_eq,L32_eq,c25_eq,c32_eq]; rfl)) rfl rfl rfl ?_)
    )
   |(refine q_id ?_; first
    |refine q_one rfl rfl rfl rfl rfl ?_
    |refine q_nil rfl ?_
    |(refine q_run rfl rfl rfl rfl ?_ rfl rfl ?_; focus (first|with_reducible rfl|(simp only [Bool.not_true,Bool.not_false]; done)))
    |(refine q_skip rfl rfl rfl rfl ?_ rfl rfl ?_; focus (first|with_reducible rfl|(simp only [Bool.not_true,Bool.not_false]; done)))
    )
   |(refine w_id ?_; first
    |refine w_seq rfl ?_
    |refine w_region rfl ?_
    |refine w_block rfl ?_
    |refine w_ret rfl ?_
    |refine w_skip rfl ?_
    |refine w_exit rfl ?_
    |(refine w_true rfl rfl ?_ ?_; focus (first|with_reducible rfl|(simp only [Bool.not_true,Bool.not_false]; done)))
    |(refine w_false rfl rfl ?_ ?_; focus (first|with_reducible rfl|(simp only [Bool.not_true,Bool.not_false]; done)))
    )
   |(refine t_id ?_; first
    |refine t_norm ?_
    |refine t_exit ?_
    |refine t_ret ?_
    )
   |(refine b_id ?_; first
    |refine b_here ?_
    |refine b_norm ?_
    |refine b_ret ?_
    )
   |(simp (disch:=assumption) only [decide_eq_true,decide_eq_false])
   |(obtain rfl:=Option.some.inj H)
   |exact fq1b (.inr rfl) rfl (by first|exact res_tmp rfl|exact res_cell rfl rfl rfl) rfl rfl rfl (.inl rfl)
   |exact fq1b (.inr rfl) rfl (by first|exact res_tmp rfl|exact res_cell rfl rfl rfl) rfl rfl rfl (.inr ⟨_,_,rfl,by decide⟩)
   |exact W1.same _
   |exact W1.no _ _
   |exact W1.any _ rfl
   |exact sub3_nil
   |(refine sub3_cons rfl ?_ ?_)
   |(simp only [lit_list,wrapK_i64,wrapK_i32,wrapK_u8,wrap64_u8,Int.reduceToNat,Int.toNat_natCast])
   |(simp only [List.map_append,List.map_cons,List.map_nil,Int.zero_sub,wrapK_u8,wrap64_u8,L25_eq,L32_eq,c25_eq,c32_eq]; first|exact W1.same _|exact W1.no _ _|exact W1.any _ rfl)
   |(simp only [List.length_append,List.length_map,List.length_cons,List.length_nil]; rfl)
   |(simp (disch:=assumption) only [if_pos,if_neg] at H)
   |(simp only [Option.bind_some] at H)
   |(simp only [beq_dec,bne_dec,decide_eq_true_eq] at H)
   |(have hh:=ite_none_ H; clear H; obtain ⟨hc,H⟩:=hh)
   |(have hh:=ite_none2_ H; clear H; obtain ⟨hc,H⟩:=hh)
   |(refine (ite_some_ H).elim (fun hh=>?_) (fun hh=>?_)<;>clear H<;>obtain ⟨hc,H⟩:=hh<;>first|(cases H; done)|(cases hc; done)|(exact absurd rfl hc)|(subst hc; done)|rw [decide_eq_true hc]|rw [decide_eq_false hc]|rw [@decide_eq_true _ (_) hc]|rw [@decide_eq_false _ (_) hc]|subst hc|(obtain rfl:=Bool.eq_false_iff.2 hc)|rw [hc]|rw [Bool.eq_false_iff.2 hc])
   |(simp only [bne_dec,beq_dec])
 ·intros; rename_i H
  refine w_fn (n:=6) Tryz.func146 rfl rfl rfl rfl rfl ?_
  unfold impl_allShapes_1.f at H; try dsimp only at H
  repeat' first
   |exact WB.nil _
   |refine WB.cons ?_ ?_
   |exact WL.nil
   |refine WL.cons ?_ ?_
   |exact W1.same _
   |exact W1.no _ _
   |exact W1.any _ rfl
   |exact sub3_nil
   |refine sub3_cons rfl ?_ ?_
   |rfl
   |(refine one_id ?_; first
    |refine s_move rfl ?_
    |refine s_load rfl rfl rfl ?_
    |refine s_fldb rfl ?_
    |refine s_add64 rfl rfl ?_
    |refine s_bin rfl rfl rfl ?_
    |refine s_assign rfl ?_
    |refine s_pick rfl rfl ?_
    |refine s_loadr rfl rfl rfl ?_
    |refine s_not rfl ?_
    |refine s_lenm rfl ?_
    |(have hb:=Option.bind_eq_some_iff.1 H; clear H; obtain ⟨t,hA,H⟩:=hb; refine s_call rfl (by first|exact impl_shapeOk_fn hA|exact (ih _ (by omega)).1 hA|exact (ih _ (by omega)).2.1 hA|exact (ih _ (by omega)).2.2.1 hA|exact (ih _ (by omega)).2.2.2 hA) (by first|rfl|(simp only [L25_eq,L32_eq,c25_eq,c32_eq]; rfl)|(simp only [List.map_cons,List.map_nil,L25_eq,L32_eq,c25_eq,c32_eq]; rfl)) rfl rfl rfl ?_)
    )
   |(refine q_id ?_; first
    |refine q_box rfl rfl rfl rfl rfl rfl rfl ?_
    |refine q_one rfl rfl rfl rfl rfl ?_
    |refine q_nil rfl ?_
    |(refine q_run rfl rfl rfl rfl ?_ rfl rfl ?_; focus (first|with_reducible rfl|(simp only [Bool.not_true,Bool.not_false]; done)))
    |(refine q_skip rfl rfl rfl rfl ?_ rfl rfl ?_; focus (first|with_reducible rfl|(simp only [Bool.not_true,Bool.not_false]; done)))
    )
   |(refine w_id ?_; first
    |refine w_seq rfl ?_
    |refine w_region rfl ?_
    |refine w_block rfl ?_
    |refine w_ret rfl ?_
    |refine w_skip rfl ?_
    |refine w_exit rfl ?_
    |(refine w_true rfl rfl ?_ ?_; focus (first|with_reducible rfl|(simp only [Bool.not_true,Bool.not_false]; done)))
    |(refine w_false rfl rfl ?_ ?_; focus (first|with_reducible rfl|(simp only [Bool.not_true,Bool.not_false]; done)))
    )
   |(refine t_id ?_; first
    |refine t_norm ?_
    |refine t_exit ?_
    |refine t_ret ?_
    )
   |(refine b_id ?_; first
    |refine b_here ?_
    |refine b_norm ?_
    |refine b_ret ?_
    )
   |(simp (disch:=assumption) only [decide_eq_true,decide_eq_false])
   |(obtain rfl:=Option.some.inj H)
   |exact fq1b (.inr rfl) rfl (by first|exact res_tmp rfl|exact res_cell rfl rfl rfl) rfl rfl rfl (.inl rfl)
   |exact fq1b (.inr rfl) rfl (by first|exact res_tmp rfl|exact res_cell rfl rfl rfl) rfl rfl rfl (.inr ⟨_,_,rfl,by decide⟩)
   |exact W1.same _
   |exact W1.no _ _
   |exact W1.any _ rfl
   |exact sub3_nil
   |(refine sub3_cons rfl ?_ ?_)
   |(simp only [lit_list,wrapK_i64,wrapK_i32,wrapK_u8,wrap64_u8,Int.reduceToNat,Int.toNat_natCast])
   |(simp only [List.map_append,List.map_cons,List.map_nil,Int.zero_sub,wrapK_u8,wrap64_u8,L25_eq,L32_eq,c25_eq,c32_eq]; first|exact W1.same _|exact W1.no _ _|exact W1.any _ rfl)
   |(simp only [List.length_append,List.length_map,List.length_cons,List.length_nil]; rfl)
   |(simp (disch:=assumption) only [if_pos,if_neg] at H)
   |(simp only [Option.bind_some] at H)
   |(simp only [beq_dec,bne_dec,decide_eq_true_eq] at H)
   |(have hh:=ite_none_ H; clear H; obtain ⟨hc,H⟩:=hh)
   |(have hh:=ite_none2_ H; clear H; obtain ⟨hc,H⟩:=hh)
   |(refine (ite_some_ H).elim (fun hh=>?_) (fun hh=>?_)<;>clear H<;>obtain ⟨hc,H⟩:=hh<;>first|(cases H; done)|(cases hc; done)|(exact absurd rfl hc)|(subst hc; done)|rw [decide_eq_true hc]|rw [decide_eq_false hc]|rw [@decide_eq_true _ (_) hc]|rw [@decide_eq_false _ (_) hc]|subst hc|(obtain rfl:=Bool.eq_false_iff.2 hc)|rw [hc]|rw [Bool.eq_false_iff.2 hc])
   |(simp only [bne_dec,beq_dec])
 ·intros; rename_i H
  refine w_fn (n:=19) Tryz.func175 rfl rfl rfl rfl rfl ?_
  unfold impl_Node_175.f at H; try dsimp only at H
  repeat' first
   |exact WB.nil _
   |refine WB.cons ?_ ?_
   |exact WL.nil
   |refine WL.cons ?_ ?_
   |exact W1.same _
   |exact W1.no _ _
   |exact W1.any _ rfl
   |exact sub3_nil
   |refine sub3_cons rfl ?_ ?_
   |rfl
   |(refine one_id ?_; first
    |refine s_move rfl ?_
    |refine s_load rfl rfl rfl ?_
    |refine s_fldb rfl ?_
    |refine s_add64 rfl rfl ?_
    |refine s_bin rfl rfl rfl ?_
    |refine s_assign rfl ?_
    |refine s_pick rfl rfl ?_
    |refine s_loadr rfl rfl rfl ?_
    |refine s_not rfl ?_
    |refine s_lenm rfl ?_
    |refine s_ix32 rfl rfl ‹_› ‹_› rfl ?_
    |(refine s_ix32 rfl rfl ?_ ?_ rfl ?_; (focus (first|assumption|decide|omega)); (focus (first|assumption|decide|omega)))
    |(have hb:=Option.bind_eq_some_iff.1 H; clear H; obtain ⟨t,hA,H⟩:=hb; refine s_call rfl (by first|exact impl_shapeOk_fn hA|exact (ih _ (by omega)).1 hA|exact (ih _ (by omega)).2.1 hA|exact (ih _ (by omega)).2.2.1 hA|exact (ih _ (by omega)).2.2.2 hA) (by first|rfl|(simp only [L25_eq,L32_eq,c25_eq,c32_eq]; rfl)|(simp only [List.map_cons,List.map_nil,L25_eq,L32_eq,c25_eq,c32_eq]; rfl)) rfl rfl rfl ?_)
    |(have hb:=Option.bind_eq_some_iff.1 H; clear H; obtain ⟨t,hA,H⟩:=hb; refine s_callv rfl rfl (by first|exact impl_shapeOk_fn hA|exact (ih _ (by omega)).1 hA|exact (ih _ (by omega)).2.1 hA|exact (ih _ (by omega)).2.2.1 hA|exact (ih _ (by omega)).2.2.2 hA) (by first|rfl|(simp only [L25_eq,L32_eq,c25_eq,c32_eq]; rfl)) rfl rfl rfl ?_)
    )
   |(refine q_id ?_; first
    |refine q_one rfl rfl rfl rfl rfl ?_
    |refine q_nil rfl ?_
    |(refine q_run rfl rfl rfl rfl ?_ rfl rfl ?_; focus (first|with_reducible rfl|(simp only [Bool.not_true,Bool.not_false]; done)))
    |(refine q_skip rfl rfl rfl rfl ?_ rfl rfl ?_; focus (first|with_reducible rfl|(simp only [Bool.not_true,Bool.not_false]; done)))
    )
   |(refine w_id ?_; first
    |refine w_seq rfl ?_
    |refine w_region rfl ?_
    |refine w_block rfl ?_
    |refine w_ret rfl ?_
    |refine w_skip rfl ?_
    |refine w_exit rfl ?_
    |(refine w_true rfl rfl ?_ ?_; focus (first|with_reducible rfl|(simp only [Bool.not_true,Bool.not_false]; done)))
    |(refine w_false rfl rfl ?_ ?_; focus (first|with_reducible rfl|(simp only [Bool.not_true,Bool.not_false]; done)))
    |(refine w_loop3 (fun (v:(List (S32)) × (Int) × (Int))=>⟨19,[(0,.row (v.1.map c32) .no),(7,.val (.int .i64 v.2.1)),(8,.val (.int .i64 v.2.2)),(1,.val (.func (.func 146) #[] #[]))],[],[]⟩) (fun k v=>impl_Node_175.l0 k v.1 v.2.1 v.2.2) _ (_,_,_) rfl (fun _=>rfl) (fun _ _=>rfl) ⟨rfl,?_,?_,rfl,?_,rfl,rfl⟩ rfl H ?_; rotate_right; clear H; rintro k ⟨x0,x7,x8⟩ hk H; simp only [impl_Node_175.l0] at H; dsimp only)
    )
   |(refine t_id ?_; first
    |refine t_norm ?_
    |refine t_exit ?_
    |refine t_ret ?_
    )
   |(refine b_id ?_; first
    |refine b_here ?_
    |refine b_norm ?_
    |refine b_ret ?_
    )
   |(simp (disch:=assumption) only [decide_eq_true,decide_eq_false])
   |(refine ⟨_,(_,_,_),?_,?_,H⟩; (focus omega); refine ⟨rfl,?_,?_,rfl,?_,rfl,rfl⟩)
   |(obtain rfl:=Option.some.inj H)
   |exact fq1b (.inr rfl) rfl (by first|exact res_tmp rfl|exact res_cell rfl rfl rfl) rfl rfl rfl (.inl rfl)
   |exact fq1b (.inr rfl) rfl (by first|exact res_tmp rfl|exact res_cell rfl rfl rfl) rfl rfl rfl (.inr ⟨_,_,rfl,by decide⟩)
   |exact W1.same _
   |exact W1.no _ _
   |exact W1.any _ rfl
   |exact sub3_nil
   |(refine sub3_cons rfl ?_ ?_)
   |(simp only [lit_list,wrapK_i64,wrapK_i32,wrapK_u8,wrap64_u8,Int.reduceToNat,Int.toNat_natCast])
   |(simp only [List.map_append,List.map_cons,List.map_nil,Int.zero_sub,wrapK_u8,wrap64_u8,L25_eq,L32_eq,c25_eq,c32_eq]; first|exact W1.same _|exact W1.no _ _|exact W1.any _ rfl)
   |(simp only [List.length_append,List.length_map,List.length_cons,List.length_nil]; rfl)
   |(simp (disch:=assumption) only [if_pos,if_neg] at H)
   |(simp only [Option.bind_some] at H)
   |(simp only [beq_dec,bne_dec,decide_eq_true_eq] at H)
   |(have hh:=ite_none_ H; clear H; obtain ⟨hc,H⟩:=hh)
   |(have hh:=ite_none2_ H; clear H; obtain ⟨hc,H⟩:=hh)
   |(refine (ite_some_ H).elim (fun hh=>?_) (fun hh=>?_)<;>clear H<;>obtain ⟨hc,H⟩:=hh<;>first|(cases H; done)|(cases hc; done)|(exact absurd rfl hc)|(subst hc; done)|rw [decide_eq_true hc]|rw [decide_eq_false hc]|rw [@decide_eq_true _ (_) hc]|rw [@decide_eq_false _ (_) hc]|subst hc|(obtain rfl:=Bool.eq_false_iff.2 hc)|rw [hc]|rw [Bool.eq_false_iff.2 hc])
   |(simp only [bne_dec,beq_dec])
theorem impl_allShapes_fn {k:Nat} {a0_0:Int} {a0_1:Int} {a0_2:ByteArray} {l0_3:List ByteArray} {l0_4:List (S32)} {r:Bool} (H:impl_allShapes.f k a0_0 a0_1 a0_2 l0_3 l0_4=some r):Fn Tryz.prog 97 [.agg [.val (.int .i64 a0_0),.val (.int .i64 a0_1),.val (.string a0_2),.row (l0_3.map (cS)) .no,.row (l0_4.map (c32)) .no]] [] (.val (.bool r)) []:=(impl_Node_175_all k).1 H
set_option maxHeartbeats 4000000 in
theorem impl_size_fn {k:Nat} {a0_0:Int} {a0_1:Int} {a0_2:ByteArray} {l0_3:List ByteArray} {l0_4:List (S32)} {a1:Int} {r:_} (H:impl_size.f k a0_0 a0_1 a0_2 l0_3 l0_4 a1=some r):Fn Tryz.prog 96 [.agg [.val (.int .i64 a0_0),.val (.int .i64 a0_1),.val (.string a0_2),.row (l0_3.map (cS)) .no,.row (l0_4.map (c32)) .no],.val (.int .i64 a1)] [] (.tup [.val (.int .i64 r.1),.val (.int .i64 r.2)]) []:=by
 induction k using Nat.strongRecOn generalizing a0_0 a0_1 a0_2 l0_3 l0_4 a1 r with
 |_ k ih =>
 cases k
 ·simp [impl_size.f] at H
 rename_i k
 refine w_fn (n:=39) Tryz.func96 rfl rfl rfl rfl rfl ?_
 unfold impl_size.f at H; try dsimp only at H
 repeat' first
  |exact WB.nil _
  |refine WB.cons ?_ ?_
  |exact WL.nil
  |refine WL.cons ?_ ?_
  |exact W1.same _
  |exact W1.no _ _
  |exact W1.any _ rfl
  |exact sub3_nil
  |refine sub3_cons rfl ?_ ?_
  |rfl
  |(refine one_id ?_; first
   |refine s_move rfl ?_
   |refine s_load rfl rfl rfl ?_
   |refine s_fldb rfl ?_
   |refine s_add64 rfl rfl ?_
   |refine s_sub64 rfl rfl ?_
   |refine s_bin rfl rfl rfl ?_
   |refine s_assign rfl ?_
   |refine s_loadr rfl rfl rfl ?_
   |refine s_lenm rfl ?_
   |refine s_ix32 rfl rfl ‹_› ‹_› rfl ?_
   |(refine s_ix32 rfl rfl ?_ ?_ rfl ?_; (focus (first|assumption|decide|omega)); (focus (first|assumption|decide|omega)))
   |refine s_extract rfl rfl rfl ?_
   |refine s_min rfl rfl ?_
   |refine s_max rfl rfl ?_
   |(have hb:=Option.bind_eq_some_iff.1 H; clear H; obtain ⟨t,hA,H⟩:=hb; refine s_call rfl (by first|exact ih _ (by omega) hA) (by first|rfl|(simp only [L25_eq,L32_eq,c25_eq,c32_eq]; rfl)|(simp only [List.map_cons,List.map_nil,L25_eq,L32_eq,c25_eq,c32_eq]; rfl)) rfl rfl rfl ?_)
   )
  |(refine q_id ?_; first
   |refine q_alloc rfl rfl rfl rfl rfl ?_
   |refine q_box rfl rfl rfl rfl rfl rfl rfl ?_
   |refine q_one rfl rfl rfl rfl rfl ?_
   |refine q_nil rfl ?_
   |refine q_store rfl rfl rfl rfl rfl rfl rfl rfl rfl rfl ?_
   )
  |(refine w_id ?_; first
   |refine w_seq rfl ?_
   |refine w_region rfl ?_
   |refine w_block rfl ?_
   |refine w_ret rfl ?_
   |refine w_skip rfl ?_
   |refine w_exit rfl ?_
   |(refine w_true rfl rfl ?_ ?_; focus (first|with_reducible rfl|(simp only [Bool.not_true,Bool.not_false]; done)))
   |(refine w_false rfl rfl ?_ ?_; focus (first|with_reducible rfl|(simp only [Bool.not_true,Bool.not_false]; done)))
   |(refine w_loop3 (fun (v:(Int) × (Int) × (Int) × (List (S32)) × (Int) × (Int))=>⟨39,[(1,.val (.int .i64 v.1)),(6,.val (.int .i64 v.2.1)),(7,.val (.int .i64 v.2.2.1)),(15,.row (v.2.2.2.1.map c32) .no),(16,.val (.int .i64 v.2.2.2.2.1)),(17,.val (.int .i64 v.2.2.2.2.2)),(2,.ptr 0 0)],[[.val (.int .i64 a0_0),.val (.int .i64 a0_1),.val (.string a0_2),.row (l0_3.map (cS)) .no,.row (l0_4.map (c32)) .no]],[]⟩) (fun k v=>impl_size.l0 k v.1 v.2.1 v.2.2.1 v.2.2.2.1 v.2.2.2.2.1 v.2.2.2.2.2) _ (_,_,_,_,_,_) rfl (fun _=>rfl) (fun _ _=>rfl) ⟨rfl,?_,?_,rfl,?_,rfl,rfl⟩ rfl H ?_; rotate_right; clear H; rintro k ⟨x1,x6,x7,x15,x16,x17⟩ hk H; simp only [impl_size.l0] at H; dsimp only)
   )
  |(refine t_id ?_; first
   |refine t_norm ?_
   |refine t_exit ?_
   |refine t_ret ?_
   )
  |(refine b_id ?_; first
   |refine b_here ?_
   |refine b_norm ?_
   )
  |(simp (disch:=assumption) only [decide_eq_true,decide_eq_false])
  |(refine ⟨_,(_,_,_,_,_,_),?_,?_,H⟩; (focus omega); refine ⟨rfl,?_,?_,rfl,?_,rfl,rfl⟩)
  |(obtain rfl:=Option.some.inj H)
  |exact fqb2 (.inr rfl) rfl (by first|exact res_tmp rfl|exact res_cell rfl rfl rfl) (by first|exact res_tmp rfl|exact res_cell rfl rfl rfl) rfl rfl rfl rfl rfl
  |exact W1.same _
  |exact W1.no _ _
  |exact W1.any _ rfl
  |exact sub3_nil
  |(refine sub3_cons rfl ?_ ?_)
  |(simp only [lit_list,wrapK_i64,wrapK_i32,wrapK_u8,wrap64_u8,Int.reduceToNat,Int.toNat_natCast])
  |(simp only [List.map_append,List.map_cons,List.map_nil,Int.zero_sub,wrapK_u8,wrap64_u8,L25_eq,L32_eq,c25_eq,c32_eq]; first|exact W1.same _|exact W1.no _ _|exact W1.any _ rfl)
  |(simp only [List.length_append,List.length_map,List.length_cons,List.length_nil]; rfl)
  |(simp (disch:=assumption) only [if_pos,if_neg] at H)
  |(simp only [Option.bind_some] at H)
  |(simp only [beq_dec,bne_dec,decide_eq_true_eq] at H)
  |(have hh:=ite_none_ H; clear H; obtain ⟨hc,H⟩:=hh)
  |(have hh:=ite_none2_ H; clear H; obtain ⟨hc,H⟩:=hh)
  |(refine (ite_some_ H).elim (fun hh=>?_) (fun hh=>?_)<;>clear H<;>obtain ⟨hc,H⟩:=hh<;>first|(cases H; done)|(cases hc; done)|(exact absurd rfl hc)|(subst hc; done)|rw [decide_eq_true hc]|rw [decide_eq_false hc]|rw [@decide_eq_true _ (_) hc]|rw [@decide_eq_false _ (_) hc]|subst hc|(obtain rfl:=Bool.eq_false_iff.2 hc)|rw [hc]|rw [Bool.eq_false_iff.2 hc])
  |(simp only [bne_dec,beq_dec])
abbrev impl_TreeOk_P:Prop:=∀ {k:Nat} {a0_0:Int} {a0_1:Int} {a0_2:ByteArray} {l0_3:List ByteArray} {l0_4:List (S32)} {r:Bool} (H:impl_TreeOk.f k a0_0 a0_1 a0_2 l0_3 l0_4=some r),Fn Tryz.prog 38 [.agg [.val (.int .i64 a0_0),.val (.int .i64 a0_1),.val (.string a0_2),.row (l0_3.map (cS)) .no,.row (l0_4.map (c32)) .no]] [] (.val (.bool r)) []
abbrev impl_Quote_P:Prop:=∀ {k:Nat} {a0:ByteArray} {r:ByteArray} (H:impl_Quote.f k a0=some r),Fn Tryz.prog 171 [.val (.string a0)] [] (.val (.string r)) []
set_option maxHeartbeats 16000000 in
theorem grp_impl_TreeOk:(impl_TreeOk_P)∧(impl_Quote_P):=by
 refine ⟨?_,?_⟩
 intro k a0_0 a0_1 a0_2 l0_3 l0_4 r H; refine w_fn (n:=20) Tryz.func38 rfl rfl rfl rfl rfl ?_; unfold impl_TreeOk.f at H; try dsimp only at H
 rotate_left
 intro k a0 r H; refine w_fn (n:=38) Tryz.func171 rfl rfl rfl rfl rfl ?_; unfold impl_Quote.f at H; try dsimp only at H
 rotate_left
 repeat' first
  |exact WB.nil _
  |refine WB.cons ?_ ?_
  |exact WL.nil
  |refine WL.cons ?_ ?_
  |exact W1.same _
  |exact W1.no _ _
  |exact W1.any _ rfl
  |exact sub3_nil
  |refine sub3_cons rfl ?_ ?_
  |rfl
  |(refine one_id ?_; first
   |refine s_move rfl ?_
   |refine s_load rfl rfl rfl ?_
   |refine s_add64 rfl rfl ?_
   |refine s_bin rfl rfl rfl ?_
   |refine s_assign rfl ?_
   |refine s_pick rfl rfl ?_
   |refine s_not rfl ?_
   |refine s_lens rfl ?_
   |(refine s_bt rfl rfl ?_ ?_ ?_; (focus (first|assumption|decide|omega)); (focus (first|assumption|decide|omega)))
   |refine s_extract rfl rfl rfl ?_
   |refine s_tostr1 rfl ?_
   |refine s_lit rfl rfl rfl rfl ?_
   |(have hb:=Option.bind_eq_some_iff.1 H; clear H; obtain ⟨t,hA,H⟩:=hb; refine s_call rfl (by first|exact impl_TextOk_fn hA|exact impl_allShapes_fn hA|exact impl_size_fn hA) (by first|rfl|(simp only [L25_eq,L32_eq,c25_eq,c32_eq]; rfl)|(simp only [List.map_cons,List.map_nil,L25_eq,L32_eq,c25_eq,c32_eq]; rfl)) rfl rfl rfl ?_)
   )
  |(refine q_id ?_; first
   |refine q_box rfl rfl rfl rfl rfl rfl rfl ?_
   |(refine q_append rfl rfl rfl rfl rfl rfl rfl rfl ?_ rfl ?_ ?_ ?_ ?_; (focus (first|rfl|(simp only [List.length_append,List.length_map,List.length_cons,List.length_nil,Nat.zero_add])|exact List.length_map _)); (focus (repeat' first|exact len_lit rfl|(refine len_map ?_; intro _; rfl)|refine len_app ?_ ?_)); (focus (repeat' first|exact len_lit rfl|(refine len_map ?_; intro _; rfl)|refine len_app ?_ ?_)); (focus (constructor<;>first|omega|(simp only [List.length_append,List.length_map,List.length_cons,List.length_nil] at *; omega))))
   |refine q_litown 8 rfl rfl rfl rfl rfl rfl rfl rfl rfl ?_
   |refine q_one rfl rfl rfl rfl rfl ?_
   |refine q_nil rfl ?_
   |(refine q_run rfl rfl rfl rfl ?_ rfl rfl ?_; focus (first|with_reducible rfl|(simp only [Bool.not_true,Bool.not_false]; done)))
   |(refine q_skip rfl rfl rfl rfl ?_ rfl rfl ?_; focus (first|with_reducible rfl|(simp only [Bool.not_true,Bool.not_false]; done)))
   )
  |(refine w_id ?_; first
   |refine w_seq rfl ?_
   |refine w_region rfl ?_
   |refine w_block rfl ?_
   |refine w_ret rfl ?_
   |refine w_skip rfl ?_
   |refine w_exit rfl ?_
   |(refine w_true rfl rfl ?_ ?_; focus (first|with_reducible rfl|(simp only [Bool.not_true,Bool.not_false]; done)))
   |(refine w_false rfl rfl ?_ ?_; focus (first|with_reducible rfl|(simp only [Bool.not_true,Bool.not_false]; done)))
   |((try refine w_ownt 3 5 1 rfl rfl ?_); refine w_loop3 (fun (v:(ByteArray) × (List Int) × (Int) × (Int))=>⟨38,[(0,.val (.string v.1)),(3,.row (v.2.1.map (cI .u8)) (.own 0)),(10,.val (.int .i64 v.2.2.1)),(11,.val (.int .i64 v.2.2.2))],[],[(v.2.1.length,5,1)]⟩) (fun k v=>impl_Quote.l0 k v.1 v.2.1 v.2.2.1 v.2.2.2) _ (_,_,_,_) rfl (fun _=>rfl) (fun _ _=>rfl) ⟨rfl,?_,?_,rfl,?_,rfl,rfl⟩ rfl H ?_; rotate_right; clear H; rintro k ⟨x0,x3,x10,x11⟩ hk H; simp only [impl_Quote.l0] at H; dsimp only)
   )
  |(refine t_id ?_; first
   |refine t_norm ?_
   |refine t_exit ?_
   |refine t_ret ?_
   )
  |(refine b_id ?_; first
   |refine b_here ?_
   |refine b_norm ?_
   )
  |(simp (disch:=assumption) only [decide_eq_true,decide_eq_false])
  |(refine ⟨_,(_,_,_,_),?_,?_,H⟩; (focus omega); refine ⟨rfl,?_,?_,rfl,?_,rfl,rfl⟩)
  |(obtain rfl:=Option.some.inj H)
  |exact fq1b (.inr rfl) rfl (by first|exact res_tmp rfl|exact res_cell rfl rfl rfl) rfl rfl rfl (.inl rfl)
  |exact fq1b (.inr rfl) rfl (by first|exact res_tmp rfl|exact res_cell rfl rfl rfl) rfl rfl rfl (.inr ⟨_,_,rfl,by decide⟩)
  |exact W1.same _
  |exact W1.no _ _
  |exact W1.any _ rfl
  |exact sub3_nil
  |(refine sub3_cons rfl ?_ ?_)
  |(simp only [lit_list,wrapK_i64,wrapK_i32,wrapK_u8,wrap64_u8,Int.reduceToNat,Int.toNat_natCast])
  |(simp only [List.map_append,List.map_cons,List.map_nil,Int.zero_sub,wrapK_u8,wrap64_u8,L25_eq,L32_eq,c25_eq,c32_eq]; first|exact W1.same _|exact W1.no _ _|exact W1.any _ rfl)
  |(simp only [List.length_append,List.length_map,List.length_cons,List.length_nil]; rfl)
  |(simp (disch:=assumption) only [if_pos,if_neg] at H)
  |(simp only [Option.bind_some] at H)
  |(simp only [beq_dec,bne_dec,decide_eq_true_eq] at H)
  |(have hh:=ite_none_ H; clear H; obtain ⟨hc,H⟩:=hh)
  |(have hh:=ite_none2_ H; clear H; obtain ⟨hc,H⟩:=hh)
  |(refine (ite_some_ H).elim (fun hh=>?_) (fun hh=>?_)<;>clear H<;>obtain ⟨hc,H⟩:=hh<;>first|(cases H; done)|(cases hc; done)|(exact absurd rfl hc)|(subst hc; done)|rw [decide_eq_true hc]|rw [decide_eq_false hc]|rw [@decide_eq_true _ (_) hc]|rw [@decide_eq_false _ (_) hc]|subst hc|(obtain rfl:=Bool.eq_false_iff.2 hc)|rw [hc]|rw [Bool.eq_false_iff.2 hc])
  |(simp only [bne_dec,beq_dec])
theorem impl_TreeOk_fn:impl_TreeOk_P:=grp_impl_TreeOk.1
theorem impl_Quote_fn:impl_Quote_P:=grp_impl_TreeOk.2
set_option maxHeartbeats 4000000 in
theorem impl_braced_fn {k:Nat} {a0_0:Int} {a0_1:Int} {a0_2:ByteArray} {l0_3:List ByteArray} {l0_4:List (S32)} {r:ByteArray} (H:impl_braced.f k a0_0 a0_1 a0_2 l0_3 l0_4=some r):Fn Tryz.prog 137 [.agg [.val (.int .i64 a0_0),.val (.int .i64 a0_1),.val (.string a0_2),.row (l0_3.map (cS)) .no,.row (l0_4.map (c32)) .no]] [] (.val (.string r)) []:=by
 induction k using Nat.strongRecOn generalizing a0_0 a0_1 a0_2 l0_3 l0_4 r with
 |_ k ih =>
 cases k
 ·simp [impl_braced.f] at H
 rename_i k
 refine w_fn (n:=65) Tryz.func137 rfl rfl rfl rfl rfl ?_
 unfold impl_braced.f at H; try dsimp only at H
 repeat' first
  |exact WB.nil _
  |refine WB.cons ?_ ?_
  |exact WL.nil
  |refine WL.cons ?_ ?_
  |exact W1.same _
  |exact W1.no _ _
  |exact W1.any _ rfl
  |exact sub3_nil
  |refine sub3_cons rfl ?_ ?_
  |rfl
  |(refine one_id ?_; first
   |refine s_move rfl ?_
   |refine s_load rfl rfl rfl ?_
   |refine s_fldb rfl ?_
   |refine s_add64 rfl rfl ?_
   |refine s_bin rfl rfl rfl ?_
   |refine s_assign rfl ?_
   |refine s_loadr rfl rfl rfl ?_
   |refine s_lenm rfl ?_
   |refine s_ixS rfl rfl ‹_› ‹_› rfl ?_
   |(refine s_ixS rfl rfl ?_ ?_ rfl ?_; (focus (first|assumption|decide|omega)); (focus (first|assumption|decide|omega)))
   |refine s_ix32 rfl rfl ‹_› ‹_› rfl ?_
   |(refine s_ix32 rfl rfl ?_ ?_ rfl ?_; (focus (first|assumption|decide|omega)); (focus (first|assumption|decide|omega)))
   |refine s_lit rfl rfl rfl rfl ?_
   |(refine s_cat rfl rfl ?_ ?_; (focus (first|assumption|omega)))
   |(have hb:=Option.bind_eq_some_iff.1 H; clear H; obtain ⟨t,hA,H⟩:=hb; refine s_call rfl (by first|exact ih _ (by omega) hA|exact impl_Digits_fn hA|exact impl_Quote_fn hA|exact strings_Join_fn hA) (by first|rfl|(simp only [L25_eq,L32_eq,c25_eq,c32_eq]; rfl)|(simp only [List.map_cons,List.map_nil,L25_eq,L32_eq,c25_eq,c32_eq]; rfl)) rfl rfl rfl ?_)
   )
  |(refine q_id ?_; first
   |refine q_alloc rfl rfl rfl rfl rfl ?_
   |refine q_box rfl rfl rfl rfl rfl rfl rfl ?_
   |(refine q_append rfl rfl rfl rfl rfl rfl rfl rfl ?_ rfl ?_ ?_ ?_ ?_; (focus (first|rfl|(simp only [List.length_append,List.length_map,List.length_cons,List.length_nil,Nat.zero_add])|exact List.length_map _)); (focus (repeat' first|exact len_lit rfl|(refine len_map ?_; intro _; rfl)|refine len_app ?_ ?_)); (focus (repeat' first|exact len_lit rfl|(refine len_map ?_; intro _; rfl)|refine len_app ?_ ?_)); (focus (constructor<;>first|omega|(simp only [List.length_append,List.length_map,List.length_cons,List.length_nil] at *; omega))))
   |refine q_litown 26 rfl rfl rfl rfl rfl rfl rfl rfl rfl ?_
   |refine q_one rfl rfl rfl rfl rfl ?_
   |refine q_nil rfl ?_
   |refine q_store rfl rfl rfl rfl rfl rfl rfl rfl rfl rfl ?_
   )
  |(refine w_id ?_; first
   |refine w_seq rfl ?_
   |refine w_region rfl ?_
   |refine w_block rfl ?_
   |refine w_ret rfl ?_
   |refine w_skip rfl ?_
   |refine w_exit rfl ?_
   |(refine w_true rfl rfl ?_ ?_; focus (first|with_reducible rfl|(simp only [Bool.not_true,Bool.not_false]; done)))
   |(refine w_false rfl rfl ?_ ?_; focus (first|with_reducible rfl|(simp only [Bool.not_true,Bool.not_false]; done)))
   |((try refine w_ownt 3 9 1 rfl rfl ?_); refine w_loop3 (fun (v:(List ByteArray) × (List (S32)) × (Int) × (Int) × (Int) × (Int) × (ByteArray) × (List ByteArray) × (List (S32)))=>⟨65,[(3,.row (v.1.map cS) (.own 0)),(28,.row (v.2.1.map c32) .no),(29,.val (.int .i64 v.2.2.1)),(30,.val (.int .i64 v.2.2.2.1)),(1,.ptr 0 0)],[[.val (.int .i64 v.2.2.2.2.1),.val (.int .i64 v.2.2.2.2.2.1),.val (.string v.2.2.2.2.2.2.1),.row (v.2.2.2.2.2.2.2.1.map cS) .no,.row (v.2.2.2.2.2.2.2.2.map c32) .no]],[(v.1.length,9,1)]⟩) (fun k v=>impl_braced.l0 k v.1 v.2.1 v.2.2.1 v.2.2.2.1 v.2.2.2.2.1 v.2.2.2.2.2.1 v.2.2.2.2.2.2.1 v.2.2.2.2.2.2.2.1 v.2.2.2.2.2.2.2.2) _ (_,_,_,_,_,_,_,_,_) rfl (fun _=>rfl) (fun _ _=>rfl) ⟨rfl,?_,?_,rfl,?_,rfl,rfl⟩ rfl H ?_; rotate_right; clear H; rintro k ⟨x3,x28,x29,x30,x1426000,x1426001,x1426002,x1426003,x1426004⟩ hk H; simp only [impl_braced.l0] at H; dsimp only)
   )
  |(refine t_id ?_; first
   |refine t_norm ?_
   |refine t_exit ?_
   |refine t_ret ?_
   )
  |(refine b_id ?_; first
   |refine b_here ?_
   |refine b_norm ?_
   |refine b_ret ?_
   )
  |(simp (disch:=assumption) only [decide_eq_true,decide_eq_false])
  |(refine ⟨_,(_,_,_,_,_,_,_,_,_),?_,?_,H⟩; (focus omega); refine ⟨rfl,?_,?_,rfl,?_,rfl,rfl⟩)
  |(obtain rfl:=Option.some.inj H)
  |exact fq1b (.inr rfl) rfl (by first|exact res_tmp rfl|exact res_cell rfl rfl rfl) rfl rfl rfl (.inl rfl)
  |exact fq1b (.inr rfl) rfl (by first|exact res_tmp rfl|exact res_cell rfl rfl rfl) rfl rfl rfl (.inr ⟨_,_,rfl,by decide⟩)
  |exact W1.same _
  |exact W1.no _ _
  |exact W1.any _ rfl
  |exact sub3_nil
  |(refine sub3_cons rfl ?_ ?_)
  |(simp only [lit_list,wrapK_i64,wrapK_i32,wrapK_u8,wrap64_u8,Int.reduceToNat,Int.toNat_natCast])
  |(simp only [List.map_append,List.map_cons,List.map_nil,Int.zero_sub,wrapK_u8,wrap64_u8,L25_eq,L32_eq,c25_eq,c32_eq]; first|exact W1.same _|exact W1.no _ _|exact W1.any _ rfl)
  |(simp only [List.length_append,List.length_map,List.length_cons,List.length_nil]; rfl)
  |(simp (disch:=assumption) only [if_pos,if_neg] at H)
  |(simp only [Option.bind_some] at H)
  |(simp only [beq_dec,bne_dec,decide_eq_true_eq] at H)
  |(have hh:=ite_none_ H; clear H; obtain ⟨hc,H⟩:=hh)
  |(have hh:=ite_none2_ H; clear H; obtain ⟨hc,H⟩:=hh)
  |(refine (ite_some_ H).elim (fun hh=>?_) (fun hh=>?_)<;>clear H<;>obtain ⟨hc,H⟩:=hh<;>first|(cases H; done)|(cases hc; done)|(exact absurd rfl hc)|(subst hc; done)|rw [decide_eq_true hc]|rw [decide_eq_false hc]|rw [@decide_eq_true _ (_) hc]|rw [@decide_eq_false _ (_) hc]|subst hc|(obtain rfl:=Bool.eq_false_iff.2 hc)|rw [hc]|rw [Bool.eq_false_iff.2 hc])
  |(simp only [bne_dec,beq_dec])
theorem rec47_eq (x0 y0:Int) (x1 y1:Int) (x2 y2:Int) (x3 y3:Int):(x0 == y0 && (x1 == y1 && (x2 == y2 && (x3 == y3))))=(decide (x0=y0) && (decide (x1=y1) && (decide (x2=y2) && (decide (x3=y3))))):=by simp only [beq_dec]
abbrev impl_Braced_P:Prop:=∀ {k:Nat} {a0_0:Int} {a0_1:Int} {a0_2:ByteArray} {l0_3:List ByteArray} {l0_4:List (S32)} {r:ByteArray} (H:impl_Braced.f k a0_0 a0_1 a0_2 l0_3 l0_4=some r),Fn Tryz.prog 86 [.agg [.val (.int .i64 a0_0),.val (.int .i64 a0_1),.val (.string a0_2),.row (l0_3.map (cS)) .no,.row (l0_4.map (c32)) .no]] [] (.val (.string r)) []
abbrev impl_PaceNew_P:Prop:=∀ {r:_} (H:impl_PaceNew.f=some r),Fn Tryz.prog 135 [] [] (.agg [.val (.int .i64 r.1),.val (.int .i64 r.2.1),.val (.int .i64 r.2.2.1),.val (.int .i64 r.2.2.2)]) []
abbrev impl_pacedNotes_P:Prop:=∀ {k:Nat} {a0_0:ByteArray} {a0_1:ByteArray} {a0_2:Int} {a0_3:Int} {l0_4:List (S61)} {a0_5:Int} {a0_6:Int} {a0_7:Int} {a0_8:Int} {l0_9:List (S124)} {r:_} (H:impl_pacedNotes.f k a0_0 a0_1 a0_2 a0_3 l0_4 a0_5 a0_6 a0_7 a0_8 l0_9=some r),Fn Tryz.prog 74 [.agg [.val (.string a0_0),.val (.string a0_1),.val (.int .i64 a0_2),.val (.int .i64 a0_3),.row (l0_4.map (c61)) .no,.val (.int .i64 a0_5),.val (.int .i64 a0_6),.val (.int .i64 a0_7),.val (.int .i64 a0_8),.row (l0_9.map (c124)) .no]] [] (.agg [.val (.int .i64 r.1),.val (.int .i64 r.2.1),.val (.string r.2.2.1),.row (r.2.2.2.1.map (cS)) .no,.row (r.2.2.2.2.map (c32)) .no]) []
set_option maxHeartbeats 16000000 in
theorem grp_impl_Braced:(impl_Braced_P)∧(impl_PaceNew_P)∧(impl_Braced_P→impl_PaceNew_P→impl_pacedNotes_P):=by
 refine ⟨?_,?_,?_⟩
 intro k a0_0 a0_1 a0_2 l0_3 l0_4 r H; refine w_fn (n:=8) Tryz.func86 rfl rfl rfl rfl rfl ?_; unfold impl_Braced.f at H; try dsimp only at H
 rotate_left
 intro r H; refine w_fn (n:=2) Tryz.func135 rfl rfl rfl rfl rfl ?_; unfold impl_PaceNew.f at H; try dsimp only at H
 rotate_left
 intro q_impl_Braced q_impl_PaceNew k a0_0 a0_1 a0_2 a0_3 l0_4 a0_5 a0_6 a0_7 a0_8 l0_9 r H; refine w_fn (n:=19) Tryz.func74 rfl rfl rfl rfl rfl ?_; unfold impl_pacedNotes.f at H; try dsimp only at H
 rotate_left
 repeat' first
  |(refine one_id ?_; first
   |refine s_load rfl rfl rfl ?_
   |refine s_fldb rfl ?_
   |refine s_assign rfl ?_
   |refine s_not rfl ?_
   |refine s_build rfl ?_
   |(have hb:=Option.bind_eq_some_iff.1 H; clear H; obtain ⟨t,hA,H⟩:=hb; refine s_call rfl (by first|exact impl_PaceTree_fn hA|exact impl_Set_fn hA|exact impl_TextOf_fn hA|exact impl_TreeOk_fn hA|exact impl_braced_fn hA|exact impl_notesTree_fn hA|exact q_impl_Braced hA|exact q_impl_PaceNew hA) (by first|rfl|(simp only [L25_eq,L32_eq,c25_eq,c32_eq]; rfl)|(simp only [List.map_cons,List.map_nil,L25_eq,L32_eq,c25_eq,c32_eq]; rfl)) rfl rfl rfl ?_)
   |refine s_recne rfl rfl rfl rfl (rec47_run _ _ _ _ _ _ _ _) (rec47_ne _ _ _ _ _ _ _ _) ?_
   )
  |(refine q_id ?_; first
   |refine q_box rfl rfl rfl rfl rfl rfl rfl ?_
   |refine q_alloc rfl rfl rfl rfl rfl ?_
   |refine q_one rfl rfl rfl rfl rfl ?_
   |refine q_nil rfl ?_
   |refine q_store rfl rfl rfl rfl rfl rfl rfl rfl rfl rfl ?_
   )
  |(refine w_id ?_; first
   |refine w_seq rfl ?_
   |refine w_region rfl ?_
   |refine w_ret rfl ?_
   |refine w_skip rfl ?_
   |(refine w_true rfl rfl ?_ ?_; focus (first|with_reducible rfl|(simp only [Bool.not_true,Bool.not_false]; done)))
   |(refine w_false rfl rfl ?_ ?_; focus (first|with_reducible rfl|(simp only [Bool.not_true,Bool.not_false]; done)))
   |refine w_draw (c:=cl (cl (cr (cr (bo Tryz.f74))))) 4 [] rfl (by kernel_rfl) rfl ?_
   |refine w_draw (c:=cl (cr (cl (cr (cr (bo Tryz.f74)))))) 7 [] rfl (by kernel_rfl) rfl ?_
   )
  |(refine t_id ?_; first
   |refine t_norm ?_
   |refine t_ret ?_
   )
  |(refine e_id ?_; first
   |refine e_one rfl rfl rfl rfl rfl ?_
   |refine e_end rfl ?_
   )
  |(simp (disch:=assumption) only [decide_eq_true,decide_eq_false])
  |(obtain rfl:=Option.some.inj H)
  |exact fq1b (.inr rfl) rfl (by first|exact res_tmp rfl|exact res_cell rfl rfl rfl) rfl rfl rfl (.inl rfl)
  |exact fq1b (.inr rfl) rfl (by first|exact res_tmp rfl|exact res_cell rfl rfl rfl) rfl rfl rfl (.inr ⟨_,_,rfl,by decide⟩)
  |exact W1.same _
  |exact W1.no _ _
  |exact W1.any _ rfl
  |exact sub3_nil
  |(simp only [lit_list,wrapK_i64,wrapK_i32,wrapK_u8,wrap64_u8,Int.reduceToNat,Int.toNat_natCast])
  |(simp (disch:=assumption) only [if_pos,if_neg] at H)
  |(simp only [Option.bind_some] at H)
  |(simp only [beq_dec,bne_dec,decide_eq_true_eq] at H)
  |(have hh:=ite_none_ H; clear H; obtain ⟨hc,H⟩:=hh)
  |(have hh:=ite_none2_ H; clear H; obtain ⟨hc,H⟩:=hh)
  |(refine (ite_some_ H).elim (fun hh=>?_) (fun hh=>?_)<;>clear H<;>obtain ⟨hc,H⟩:=hh<;>first|(cases H; done)|(cases hc; done)|(exact absurd rfl hc)|(subst hc; done)|rw [decide_eq_true hc]|rw [decide_eq_false hc]|rw [@decide_eq_true _ (_) hc]|rw [@decide_eq_false _ (_) hc]|subst hc|(obtain rfl:=Bool.eq_false_iff.2 hc)|rw [hc]|rw [Bool.eq_false_iff.2 hc])
  |(simp only [bne_dec,beq_dec])
theorem impl_Braced_fn:impl_Braced_P:=grp_impl_Braced.1
theorem impl_PaceNew_fn:impl_PaceNew_P:=grp_impl_Braced.2.1
theorem impl_pacedNotes_fn:impl_pacedNotes_P:=grp_impl_Braced.2.2 impl_Braced_fn impl_PaceNew_fn
end Go.Proofs.YtdlhidjphaaklaaGreat.V
end
section
namespace Go.Proofs.YtdlhidjphaaklaaGreat.V
open Go Go.RowKit Go.Proofs.YtdlhidjphaaklaaGreat Go.Proofs.YtdlhidjphaaklaaGreat.P Go.Proofs.YtdlhidjphaaklaaGreatW Go.Proofs.YtdlhidjphaaklaaGreatW.PrintWords Go.Proofs.YtdlhidjphaaklaaGreatW.PrintLast Go.Proofs.YtdlhidjphaaklaaGreat.M Go.Proofs.YtdlhidjphaaklaaGreat.H
set_option maxRecDepth 100000
set_option maxHeartbeats 8000000 in
theorem midTree_last {w0:World} {k:Nat} (X Y:P.S32) {n t:ByteArray} {lo hi p0 p1 p2 p3:Int} {ms:List P.S61} {ns:List P.S124} {z0 z1 z2 z3 z4:AV} (hN:impl_pacedNotes.f k n t lo hi ms p0 p1 p2 p3 ns=some (Y.f0,Y.f1,Y.f2,Y.f3,Y.f4)) (hcx:cntTop X≤1099511627776) (hcy:cntTop Y≤1099511627776) :
  CK Tryz.prog ⟨w0,fun b _=>b<w0.heap.size,[]⟩ (bodyPost Tryz.prog Tryz.f25 fun e w'=>Made w0 (setV X (⟨#[110,111,116,101,115]⟩:ByteArray) Y) e w') (cr (cr (cr (bo Tryz.f25)))) ⟨18,[(1,.ptr 0 0),(2,.ptr 1 0),(3,.ptr 2 0)],[[.val (.string n),.val (.string t),.val (.int .i64 lo),.val (.int .i64 hi),.row (ms.map c61) .no,.val (.int .i64 p0),.val (.int .i64 p1),.val (.int .i64 p2),.val (.int .i64 p3),.row (ns.map c124) .no],[z0,z1,z2,z3,z4],[.val (.int .i64 X.f0),.val (.int .i64 X.f1),.val (.string X.f2),.row (X.f3.map cS) .no,.row (X.f4.map c32) .no]],[]⟩:=by
 intro E a w hI
 obtain ⟨g0,us0,ty0,p1_,q0,b0,r0⟩:=hI.box_at (d:=1) (i:=0) rfl rfl
 obtain ⟨g1,us1,ty1,p2_,q1,b1,r1⟩:=hI.box_at (d:=2) (i:=1) rfl rfl
 obtain ⟨g2,us2,ty2,p3_,q2,b2,r2⟩:=hI.box_at (d:=3) (i:=2) rfl rfl
 have h12:g1 ≠ g2:=fun e=>absurd (hI.inj 1 2 g1 q1 (e ▸ q2)) (by decide)
 have h10:g1 ≠ g0:=fun e=>absurd (hI.inj 1 0 g1 q1 (e ▸ q0)) (by decide)
 have hf1:w0.heap.size≤g1:=by rcases (hI.fresh 1 g1 q1).2 with h|h; exact h; simp at h
 have hB0:Below w0.heap.size w0 w:=⟨hI.os,hI.tape,hI.output,hI.size,fun k hk=>hI.block k hk (by simp)⟩
 obtain ⟨x0,y0,rfl,e0,r2⟩:=reps_cons r2
 obtain ⟨x1,y1,rfl,e1,r2⟩:=reps_cons r2
 obtain ⟨x2,y2,rfl,e2,r2⟩:=reps_cons r2
 obtain ⟨x3,y3,rfl,e3,r2⟩:=reps_cons r2
 obtain ⟨x4,y4,rfl,e4,r2⟩:=reps_cons r2
 obtain rfl:=reps_nil r2
 obtain rfl:=(rep_val e0).1
 obtain rfl:=(rep_val e1).1
 obtain rfl:=(rep_val e2).1
 obtain ⟨A3,c3,rfl,l3,k3⟩:=row_of ka_string.len (fun x _ cs h=>ka_string.of h) e3
 obtain ⟨A4,c4,rfl,l4,k4⟩:=row_of ka32.len (fun x _ cs h=>ka32.of h) e4
 obtain ⟨s0,t0,rfl,d0,r0⟩:=reps_cons r0
 obtain ⟨s1,t1,rfl,d1,r0⟩:=reps_cons r0
 obtain ⟨s2,t2,rfl,d2,r0⟩:=reps_cons r0
 obtain ⟨s3,t3,rfl,d3,r0⟩:=reps_cons r0
 obtain ⟨s4,t4,rfl,d4,r0⟩:=reps_cons r0
 obtain ⟨s5,t5,rfl,d5,r0⟩:=reps_cons r0
 obtain ⟨s6,t6,rfl,d6,r0⟩:=reps_cons r0
 obtain ⟨s7,t7,rfl,d7,r0⟩:=reps_cons r0
 obtain ⟨s8,t8,rfl,d8,r0⟩:=reps_cons r0
 obtain ⟨s9,t9,rfl,d9,r0⟩:=reps_cons r0
 obtain rfl:=reps_nil r0
 obtain rfl:=(rep_val d0).1
 obtain rfl:=(rep_val d1).1
 obtain rfl:=(rep_val d2).1
 obtain rfl:=(rep_val d3).1
 obtain rfl:=(rep_val d5).1
 obtain rfl:=(rep_val d6).1
 obtain rfl:=(rep_val d7).1
 obtain rfl:=(rep_val d8).1
 obtain ⟨M4,m4,rfl,l4',k4'⟩:=row_of ka61.len (fun x _ cs h=>ka61.of h) d4
 obtain ⟨M9,m9,rfl,l9',k9⟩:=row_of ka124.len (fun x _ cs h=>ka124.of h) d9
 obtain ⟨mm0,nn0,rfl,_,r1⟩:=reps_cons r1
 obtain ⟨mm1,nn1,rfl,_,r1⟩:=reps_cons r1
 obtain ⟨mm2,nn2,rfl,_,r1⟩:=reps_cons r1
 obtain ⟨mm3,nn3,rfl,_,r1⟩:=reps_cons r1
 obtain ⟨mm4,nn4,rfl,_,r1⟩:=reps_cons r1
 obtain rfl:=reps_nil r1
 have htz:=hI.tsz; have hdf:=hI.defers; clear hI d0 d1 d2 d3 d4 d5 d6 d7 d8 d9 e0 e1 e2 e3 e4 q0 q1 q2
 obtain ⟨⟨tm⟩,df⟩:=a
 obtain rfl:df=[]:=hdf
 replace htz:tm.length=18:=htz
 obtain ⟨u0,tm0,rfl,hz0⟩:=cons_of htz
 obtain ⟨u1,tm1,rfl,hz1⟩:=cons_of hz0
 obtain ⟨u2,tm2,rfl,hz2⟩:=cons_of hz1
 obtain ⟨u3,tm3,rfl,hz3⟩:=cons_of hz2
 obtain ⟨u4,tm4,rfl,hz4⟩:=cons_of hz3
 obtain ⟨u5,tm5,rfl,hz5⟩:=cons_of hz4
 obtain ⟨u6,tm6,rfl,hz6⟩:=cons_of hz5
 obtain ⟨u7,tm7,rfl,hz7⟩:=cons_of hz6
 obtain ⟨u8,tm8,rfl,hz8⟩:=cons_of hz7
 obtain ⟨u9,tm9,rfl,hz9⟩:=cons_of hz8
 obtain ⟨u10,tm10,rfl,hz10⟩:=cons_of hz9
 obtain ⟨u11,tm11,rfl,hz11⟩:=cons_of hz10
 obtain ⟨u12,tm12,rfl,hz12⟩:=cons_of hz11
 obtain ⟨u13,tm13,rfl,hz13⟩:=cons_of hz12
 obtain ⟨u14,tm14,rfl,hz14⟩:=cons_of hz13
 obtain ⟨u15,tm15,rfl,hz15⟩:=cons_of hz14
 obtain ⟨u16,tm16,rfl,hz16⟩:=cons_of hz15
 obtain ⟨u17,tm17,rfl,hz17⟩:=cons_of hz16
 obtain rfl:=List.eq_nil_of_length_eq_zero hz17
 clear hz0 hz1 hz2 hz3 hz4 hz5 hz6 hz7 hz8 hz9 hz10 hz11 hz12 hz13 hz14 hz15 hz16
 obtain rfl:u1=_:=Option.some.inj p1_
 obtain rfl:u2=_:=Option.some.inj p2_
 obtain rfl:u3=_:=Option.some.inj p3_
 clear p1_ p2_ p3_
 have BX:=Lib.hid b2
 have BR:=Lib.hid b1
 have BO:=Lib.hid b0
 have K3:=Lib.hid k3
 have K4:=Lib.hid k4
 have K4':=Lib.hid k4'
 have K9:=Lib.hid k9
 have HB:=Lib.hid hB0
 have HCX:=Lib.hid hcx
 have HCY:=Lib.hid hcy
 have hu:=Tryz.underlying32
 have hu2:=Tryz.underlying50
 have hu3:=Tryz.underlying47
 have h2w:g2<w.heap.size:=blk_lt b2
 have h0w:g0<w.heap.size:=blk_lt b0
 obtain ⟨v0,v1,v2,v3,v4⟩:=cells5 b2
 have x0:w.cell? ⟨g0,0,none⟩=some (.string n):=(blk_cell b0 0).trans rfl
 have x1:w.cell? ⟨g0,1,none⟩=some (.string t):=(blk_cell b0 1).trans rfl
 have x2:w.cell? ⟨g0,2,none⟩=some (.int .i64 lo):=(blk_cell b0 2).trans rfl
 have x3:w.cell? ⟨g0,3,none⟩=some (.int .i64 hi):=(blk_cell b0 3).trans rfl
 have x4:w.cell? ⟨g0,4,none⟩=some (.slice M4 ms.length m4):=(blk_cell b0 4).trans rfl
 have x5:w.cell? ⟨g0,5,none⟩=some (.int .i64 p0):=(blk_cell b0 5).trans rfl
 have x6:w.cell? ⟨g0,6,none⟩=some (.int .i64 p1):=(blk_cell b0 6).trans rfl
 have x7:w.cell? ⟨g0,7,none⟩=some (.int .i64 p2):=(blk_cell b0 7).trans rfl
 have x8:w.cell? ⟨g0,8,none⟩=some (.int .i64 p3):=(blk_cell b0 8).trans rfl
 have x9:w.cell? ⟨g0,9,none⟩=some (.slice M9 ns.length m9):=(blk_cell b0 9).trans rfl
 have SO:Hid (∀ W:World,Below w.heap.size w W→(W.cell? ⟨g2,0,none⟩=some (.int .i64 X.f0)∧W.cell? ⟨g2,1,none⟩=some (.int .i64 X.f1)∧W.cell? ⟨g2,2,none⟩=some (.string X.f2)∧W.cell? ⟨g2,3,none⟩=some (.slice A3 X.f3.length c3)∧W.cell? ⟨g2,4,none⟩=some (.slice A4 X.f4.length c4))∧W.cell? ⟨g0,0,none⟩=some (.string n)∧W.cell? ⟨g0,1,none⟩=some (.string t)∧W.cell? ⟨g0,2,none⟩=some (.int .i64 lo)∧W.cell? ⟨g0,3,none⟩=some (.int .i64 hi)∧W.cell? ⟨g0,4,none⟩=some (.slice M4 ms.length m4)∧W.cell? ⟨g0,5,none⟩=some (.int .i64 p0)∧W.cell? ⟨g0,6,none⟩=some (.int .i64 p1)∧W.cell? ⟨g0,7,none⟩=some (.int .i64 p2)∧W.cell? ⟨g0,8,none⟩=some (.int .i64 p3)∧W.cell? ⟨g0,9,none⟩=some (.slice M9 ns.length m9)):=fun W hW =>
  ⟨⟨below_cell hW h2w v0,below_cell hW h2w v1,below_cell hW h2w v2,below_cell hW h2w v3,below_cell hW h2w v4⟩,below_cell hW h0w x0,below_cell hW h0w x1,below_cell hW h0w x2,below_cell hW h0w x3,below_cell hW h0w x4,below_cell hW h0w x5,below_cell hW h0w x6,below_cell hW h0w x7,below_cell hW h0w x8,below_cell hW h0w x9⟩
 have HN:=Lib.hid hN
 clear b0 b1 b2 k3 k4 k4' k9 hB0 hcx hcy hN
 dsimp only [bo,cr,cl,Tryz.f25,Option.getD]
 go_wp2
 refine start_ (n:=5) (S:=fun W=>(W.cell? ⟨g2,0,none⟩=some (.int .i64 X.f0)∧W.cell? ⟨g2,1,none⟩=some (.int .i64 X.f1)∧W.cell? ⟨g2,2,none⟩=some (.string X.f2)∧W.cell? ⟨g2,3,none⟩=some (.slice A3 X.f3.length c3)∧W.cell? ⟨g2,4,none⟩=some (.slice A4 X.f4.length c4))∧W.cell? ⟨g0,0,none⟩=some (.string n)∧W.cell? ⟨g0,1,none⟩=some (.string t)∧W.cell? ⟨g0,2,none⟩=some (.int .i64 lo)∧W.cell? ⟨g0,3,none⟩=some (.int .i64 hi)∧W.cell? ⟨g0,4,none⟩=some (.slice M4 ms.length m4)∧W.cell? ⟨g0,5,none⟩=some (.int .i64 p0)∧W.cell? ⟨g0,6,none⟩=some (.int .i64 p1)∧W.cell? ⟨g0,7,none⟩=some (.int .i64 p2)∧W.cell? ⟨g0,8,none⟩=some (.int .i64 p3)∧W.cell? ⟨g0,9,none⟩=some (.slice M9 ns.length m9)) (ds:=[4]) #[false,false,false,false,false] (by kernel_rfl) rfl rfl (SO.out _ (below_drew (Below.refl _ _))) (fun hHeld=>?_)
 refine take_ (i:=0) (N:=some 14) (v:=?_) (a':=?_) (bs_ 5 1) rfl rfl (by kernel_rfl) (fun _ _ _ h=>h) (Or.inl ⟨by rfl,?_⟩) hHeld ?_ ?_
 rotate_left
 ·rintro w' ⟨⟨s0,s1,s2,s3,s4⟩,s5,s6,s7,s8,s9,s10,s11,s12,s13,s14⟩
  go_simp
  (first|with_reducible rfl|rfl)
 rotate_left
 ·simp only [Act.put,List.setIfInBounds_toArray,List.set_cons_zero,List.set_cons_succ]
  rfl
 refine take_ (i:=1) (N:=some 15) (v:=?_) (a':=?_) (bs_ 5 3) rfl rfl (by kernel_rfl) (fun _ _ _ h=>h) (Or.inl ⟨by rfl,?_⟩) hHeld ?_ ?_
 rotate_left
 ·rintro w' ⟨⟨s0,s1,s2,s3,s4⟩,s5,s6,s7,s8,s9,s10,s11,s12,s13,s14⟩
  go_simp
  (first|with_reducible rfl|rfl)
 rotate_left
 ·simp only [Act.put,List.setIfInBounds_toArray,List.set_cons_zero,List.set_cons_succ]
  rfl
 refine one_ (i:=2) (N:=some 16) (bs_ 5 7) rfl rfl (by kernel_rfl) (by decide) (fun K hK=>?_)
 refine goes_ Tryz.func74 (by kernel_rfl) rfl #[.agg #[.string n,.string t,.int .i64 lo,.int .i64 hi,.slice M4 ms.length m4,.int .i64 p0,.int .i64 p1,.int .i64 p2,.int .i64 p3,.slice M9 ns.length m9]] (by rfl) rfl rfl (by (try simp only [List.map_toArray,List.map_cons,List.map_nil]); first|done|rfl) ?_
 refine (fn_calls (impl_pacedNotes_fn HN.out) (vs:=[.agg #[.string n,.string t,.int .i64 lo,.int .i64 hi,.slice M4 ms.length m4,.int .i64 p0,.int .i64 p1,.int .i64 p2,.int .i64 p3,.slice M9 ns.length m9]]) (reps_cons_mk (rep_agg_mk (reps_cons_mk (Rep.val _ rfl) (reps_cons_mk (Rep.val _ rfl) (reps_cons_mk (Rep.val _ rfl) (reps_cons_mk (Rep.val _ rfl) (reps_cons_mk (row_to [] (by decide) ka61.len ka61.fl (fun x _ cs h=>ka61.fwd [] h) (Kd.C_below K4'.out (below_drew (Below.refl _ _))) l4') (reps_cons_mk (Rep.val _ rfl) (reps_cons_mk (Rep.val _ rfl) (reps_cons_mk (Rep.val _ rfl) (reps_cons_mk (Rep.val _ rfl) (reps_cons_mk (row_to [] (by decide) ka124.len ka124.fl (fun x _ cs h=>ka124.fwd [] h) (Kd.C_below K9.out (below_drew (Below.refl _ _))) l9') reps_nil_mk)))))))))) rfl) reps_nil_mk)).mono ?_
 rintro e w5 ⟨yv,F5,gs5,rfl,hr,hb⟩
 obtain ⟨ys,rfl,hr0⟩:=rep_agg hr
 obtain ⟨j0,w0_,rfl,f0,hr1⟩:=reps_cons hr0
 obtain ⟨j1,w1_,rfl,f1,hr2⟩:=reps_cons hr1
 obtain ⟨j2,w2_,rfl,f2,hr3⟩:=reps_cons hr2
 obtain ⟨j3,w3_,rfl,f3,hr4⟩:=reps_cons hr3
 obtain ⟨j4,w4_,rfl,f4,hr5⟩:=reps_cons hr4
 obtain rfl:=reps_nil hr5
 clear hr hr0 hr1 hr2 hr3 hr4 hr5
 obtain rfl:=(rep_val f0).1
 obtain rfl:=(rep_val f1).1
 obtain rfl:=(rep_val f2).1
 obtain ⟨B3,m3',rfl,i3,kk3⟩:=row_of ka_string.len (fun x _ cs h=>ka_string.of h) f3
 obtain ⟨B4,m4',rfl,i4,kk4⟩:=row_of ka32.len (fun x _ cs h=>ka32.of h) f4
 refine ⟨_,rfl,?_⟩
 have HW5:=Lib.hid ((below_drew (Below.refl w.heap.size w)).trans hb)
 have J3:=Lib.hid kk3; have J4:=Lib.hid kk4; clear kk3 kk4 hb f0 f1 f2 f3 f4
 refine hK.out _ _ (SO.out _ HW5.out) (fun hHeld=>?_)
 clear hK K
 refine norm_ (a':=?_) ?_ ?_
 rotate_left
 ·show Act.put _ (some 16) _=_
  simp only [Act.put,List.setIfInBounds_toArray,List.set_cons_zero,List.set_cons_succ]
  rfl
 refine one_ (i:=3) (N:=some 17) (bs_ 5 15) rfl rfl (by kernel_rfl) (by decide) (fun K hK=>?_)
 refine goes_ Tryz.func64 (by kernel_rfl) rfl #[.agg #[.int .i64 X.f0,.int .i64 X.f1,.string X.f2,.slice A3 X.f3.length c3,.slice A4 X.f4.length c4],.string (⟨#[110,111,116,101,115]⟩:ByteArray),.agg #[.int .i64 Y.f0,.int .i64 Y.f1,.string Y.f2,.slice B3 Y.f3.length m3',.slice B4 Y.f4.length m4']] (by rfl) rfl rfl (by (try simp only [List.map_toArray,List.map_cons,List.map_nil]); first|done|rfl) ?_
 refine (set_calls X (⟨#[110,111,116,101,115]⟩:ByteArray) Y HCX.out HCY.out A3 A4 B3 B4 c3 c4 m3' m4' w5 (Kd.C_below K3.out HW5.out) l3 (Kd.C_below K4.out HW5.out) l4 J3.out i3 J4.out i4).mono ?_
 rintro e w6 ⟨u3_,u4_,gs,rfl,ht,hf,hb⟩
 refine ⟨_,rfl,?_⟩
 have HW6:=Lib.hid (HW5.out.trans (hb.mono HW5.out.size))
 have hs6:=Seen.of_top ht; obtain ⟨D3,r3,D4,r4,rfl,rfl,_,_,_,_⟩:=hs6
 have HT6:=Lib.hid ht; have HF6:=Lib.hid (fun q hq=>Nat.le_trans HW5.out.size (hf q hq)); have BR6:=Lib.hid (blk_below BR.out HW6.out); clear ht hf hb
 obtain ⟨fo0,fo1,fo2,fo3,fo4⟩:=free5 BR6.out; obtain ⟨ro0,ro1,ro2,ro3,ro4⟩:=cells5 BR6.out
 refine hK.out _ _ (SO.out _ HW6.out) (fun hHeld=>?_)
 clear hK K
 refine norm_ (a':=?_) ?_ ?_
 rotate_left
 ·show Act.put _ (some 17) _=_
  simp only [Act.put,List.setIfInBounds_toArray,List.set_cons_zero,List.set_cons_succ]
  rfl
 refine last_ (i:=4) (N:=none) (bs_ 5 31) rfl rfl (by kernel_rfl) (by decide) (fun K hK=>?_)
 refine skip_ (w1:=?_) (by rfl) rfl ?_ ?_
 rotate_left
 ·go_simp
  rfl
 refine hK.out _ _ ?_
 clear hK K
 refine done_ (by kernel_rfl) ?_
 have BR8:=Lib.hid (put5 BR6.out (.int .i64 (setV X (⟨#[110,111,116,101,115]⟩:ByteArray) Y).f0) (.int .i64 (setV X (⟨#[110,111,116,101,115]⟩:ByteArray) Y).f1) (.string (setV X (⟨#[110,111,116,101,115]⟩:ByteArray) Y).f2) (.slice D3 (setV X (⟨#[110,111,116,101,115]⟩:ByteArray) Y).f3.length r3) (.slice D4 (setV X (⟨#[110,111,116,101,115]⟩:ByteArray) Y).f4.length r4))
 have HC:=Lib.hid ((((chg_put w6 g1 0 (.int .i64 (setV X (⟨#[110,111,116,101,115]⟩:ByteArray) Y).f0)).trans (chg_put _ g1 1 (.int .i64 (setV X (⟨#[110,111,116,101,115]⟩:ByteArray) Y).f1))).trans (chg_put _ g1 2 (.string (setV X (⟨#[110,111,116,101,115]⟩:ByteArray) Y).f2))).trans (chg_put _ g1 3 (.slice D3 (setV X (⟨#[110,111,116,101,115]⟩:ByteArray) Y).f3.length r3)) |>.trans (chg_put _ g1 4 (.slice D4 (setV X (⟨#[110,111,116,101,115]⟩:ByteArray) Y).f4.length r4)))
 generalize hV:setV X (⟨#[110,111,116,101,115]⟩:ByteArray) Y=V at *
 have HV:=Lib.hid hV
 clear hV
 have h1w:g1<w.heap.size:=blk_lt BR.out
 obtain ⟨ao0,ao1,ao2,ao3,ao4⟩:=cells5 BR8.out
 obtain ⟨ap0,ap1,ap2,ap3,ap4⟩:=free5 BR8.out
 go_wp2
 obtain rfl:=HV.out
 exact bodyPost_ret (v:=.agg #[.int .i64 (setV X (⟨#[110,111,116,101,115]⟩:ByteArray) Y).f0,.int .i64 (setV X (⟨#[110,111,116,101,115]⟩:ByteArray) Y).f1,.string (setV X (⟨#[110,111,116,101,115]⟩:ByteArray) Y).f2,.slice D3 (setV X (⟨#[110,111,116,101,115]⟩:ByteArray) Y).f3.length r3,.slice D4 (setV X (⟨#[110,111,116,101,115]⟩:ByteArray) Y).f4.length r4]) (by simp [results,Tryz.results25,go_sem,ao0,ao1,ao2,ao3,ao4,ap0,ap1,ap2,ap3,ap4]) rfl
  ⟨_,_,gs,rfl,Top_chg (S:=fun q=>q=g1) HT6.out HC.out (fun q hq e=>by have:=HF6.out q hq; omega),fun q hq=>by have h1:=HF6.out q hq; have h2:=HB.out.size; omega,below_chg (S:=fun q=>q=g1) (HB.out.trans (HW6.out.mono HB.out.size)) (Nat.le_trans HB.out.size HW6.out.size) HC.out (fun q e=>e ▸ hf1)⟩
theorem midTree_zero {w0:World} {os:List AV}:CE ⟨w0,fun b _=>b<w0.heap.size,[]⟩ (bodyPost Tryz.prog Tryz.f25 fun e w'=>Made w0 ⟨0,0,⟨#[]⟩,[],[]⟩ e w') .ret ⟨18,[(2,.ptr 1 0)],[os,[.val (.int .i64 0),.val (.int .i64 0),.val (.string ⟨#[]⟩),.row [] .nil,.row [] .nil]],[]⟩:=by
 intro E a w hI
 obtain ⟨g1,us1,ty1,p2,q1,b1,r0⟩:=hI.box_at (d:=2) (i:=1) rfl rfl
 have hB0:Below w0.heap.size w0 w:=⟨hI.os,hI.tape,hI.output,hI.size,fun k hk=>hI.block k hk (by simp)⟩
 obtain ⟨x0,y0,rfl,e0,r1⟩:=reps_cons r0
 obtain ⟨x1,y1,rfl,e1,r2⟩:=reps_cons r1
 obtain ⟨x2,y2,rfl,e2,r3⟩:=reps_cons r2
 obtain ⟨x3,y3,rfl,e3,r4⟩:=reps_cons r3
 obtain ⟨x4,y4,rfl,e4,r5⟩:=reps_cons r4
 obtain rfl:=reps_nil r5
 obtain rfl:=(rep_val e0).1
 obtain rfl:=(rep_val e1).1
 obtain rfl:=(rep_val e2).1
 have hx3:x3=.slice none 0 0:=by generalize x3=z at e3; cases e3 with|nil=>rfl|empty A c tag ht=>exact absurd rfl ht|row g o c sz elems us tag ht=>exact absurd rfl ht
 have hx4:x4=.slice none 0 0:=by generalize x4=z at e4; cases e4 with|nil=>rfl|empty A c tag ht=>exact absurd rfl ht|row g o c sz elems us tag ht=>exact absurd rfl ht
 subst hx3 hx4
 have htz:=hI.tsz; have hdf:=hI.defers; clear hI e0 e1 e2 e3 e4 r1 r2 r3 r4 q1 r5 r0
 obtain ⟨⟨tm⟩,df⟩:=a
 obtain rfl:df=[]:=hdf
 replace htz:tm.length=18:=htz
 obtain ⟨u0,tm0,rfl,hz0⟩:=cons_of htz
 obtain ⟨u1,tm1,rfl,hz1⟩:=cons_of hz0
 obtain ⟨u2,tm2,rfl,hz2⟩:=cons_of hz1
 obtain ⟨u3,tm3,rfl,hz3⟩:=cons_of hz2
 obtain ⟨u4,tm4,rfl,hz4⟩:=cons_of hz3
 obtain ⟨u5,tm5,rfl,hz5⟩:=cons_of hz4
 obtain ⟨u6,tm6,rfl,hz6⟩:=cons_of hz5
 obtain ⟨u7,tm7,rfl,hz7⟩:=cons_of hz6
 obtain ⟨u8,tm8,rfl,hz8⟩:=cons_of hz7
 obtain ⟨u9,tm9,rfl,hz9⟩:=cons_of hz8
 obtain ⟨u10,tm10,rfl,hz10⟩:=cons_of hz9
 obtain ⟨u11,tm11,rfl,hz11⟩:=cons_of hz10
 obtain ⟨u12,tm12,rfl,hz12⟩:=cons_of hz11
 obtain ⟨u13,tm13,rfl,hz13⟩:=cons_of hz12
 obtain ⟨u14,tm14,rfl,hz14⟩:=cons_of hz13
 obtain ⟨u15,tm15,rfl,hz15⟩:=cons_of hz14
 obtain ⟨u16,tm16,rfl,hz16⟩:=cons_of hz15
 obtain ⟨u17,tm17,rfl,hz17⟩:=cons_of hz16
 obtain rfl:=List.eq_nil_of_length_eq_zero hz17
 obtain rfl:u2=_:=Option.some.inj p2
 obtain ⟨ao0,ao1,ao2,ao3,ao4⟩:=cells5 b1
 obtain ⟨ap0,ap1,ap2,ap3,ap4⟩:=free5 b1
 have hu:=Tryz.underlying32
 exact ⟨rfl,.agg #[.int .i64 0,.int .i64 0,.string ⟨#[]⟩,.slice none 0 0,.slice none 0 0],by simp [results,Tryz.results25,go_sem,ao0,ao1,ao2,ao3,ao4,ap0,ap1,ap2,ap3,ap4],_,_,[],rfl,Top_zero w,fun q hq=>by simp [topFp,Value.ownBlock] at hq,hB0⟩
end Go.Proofs.YtdlhidjphaaklaaGreat.V
end
section
namespace Go.Proofs.YtdlhidjphaaklaaGreat.V
open Go Go.RowKit Go.Proofs.YtdlhidjphaaklaaGreat Go.Proofs.YtdlhidjphaaklaaGreat.P Go.Proofs.YtdlhidjphaaklaaGreatW Go.Proofs.YtdlhidjphaaklaaGreat.H
set_option maxRecDepth 100000
attribute [local irreducible] thenQ blockQ AWP AOps FinQ Draw One PrintWords.bt CK CE
set_option maxHeartbeats 8000000 in
theorem impl_MidTree_made {k:Nat} {a0_0:ByteArray} {a0_1:ByteArray} {a0_2:Int} {a0_3:Int} {l0_4:List (S61)} {a0_5:Int} {a0_6:Int} {a0_7:Int} {a0_8:Int} {l0_9:List (S124)} {r:_} (H:impl_MidTree.f k a0_0 a0_1 a0_2 a0_3 l0_4 a0_5 a0_6 a0_7 a0_8 l0_9=some r) {w:World} {vs:List Value} (hv:Reps (fun b _=>b<w.heap.size) [] w [.agg [.val (.string a0_0),.val (.string a0_1),.val (.int .i64 a0_2),.val (.int .i64 a0_3),.row (l0_4.map (c61)) .no,.val (.int .i64 a0_5),.val (.int .i64 a0_6),.val (.int .i64 a0_7),.val (.int .i64 a0_8),.row (l0_9.map (c124)) .no]] vs):Calls Tryz.prog 25 vs.toArray w fun e w'=>Made w ⟨r.1,r.2.1,r.2.2.1,r.2.2.2.1,r.2.2.2.2⟩ e w':=by
 refine calls_ck (n:=18) (code:=bo Tryz.f25) Tryz.func25 rfl rfl rfl rfl hv ?_
 unfold impl_MidTree.f at H
 repeat' first
  |(refine one_id ?_; first
   |refine s_load rfl rfl rfl ?_
   |refine s_fldb rfl ?_
   |refine s_not rfl ?_
   |refine s_build rfl ?_
   |(have hb:=Option.bind_eq_some_iff.1 H; clear H; obtain ⟨t,hA,H⟩:=hb; refine s_call rfl (by first|exact impl_OrderOk_fn hA|exact impl_Set_fn hA|exact impl_commonTree_fn hA|exact impl_metricsTree_fn hA|exact impl_pacedNotes_fn hA) (by first|rfl|(simp only [L25_eq,L32_eq,c25_eq,c32_eq]; rfl)|(simp only [List.map_cons,List.map_nil,L25_eq,L32_eq,c25_eq,c32_eq]; rfl)) rfl rfl rfl ?_)
   )
  |(refine q_id ?_; first
   |refine q_alloc rfl rfl rfl rfl rfl ?_
   |refine q_box rfl rfl rfl rfl rfl rfl rfl ?_
   |refine q_one rfl rfl rfl rfl rfl ?_
   |refine q_nil rfl ?_
   |refine q_store rfl rfl rfl rfl rfl rfl rfl rfl rfl rfl ?_
   )
  |(refine w_id ?_; first
   |refine w_seq rfl ?_
   |refine w_region rfl ?_
   |refine w_ret rfl ?_
   |refine w_skip rfl ?_
   |(refine w_true rfl rfl ?_ ?_; focus (first|with_reducible rfl|(simp only [Bool.not_true,Bool.not_false]; done)))
   |(refine w_false rfl rfl ?_ ?_; focus (first|with_reducible rfl|(simp only [Bool.not_true,Bool.not_false]; done)))
   |refine w_draw (id:=3) 7 [[(.val (.int .i64 0)),(.val (.int .i64 0)),(.val (.string ⟨#[]⟩)),(.row [] .nil),(.row [] .nil)]] rfl (by kernel_rfl) rfl ?_
   |refine w_draw (id:=4) 4 [] rfl (by kernel_rfl) rfl ?_
   )
  |(refine t_id ?_; first
   |refine t_norm ?_
   |refine t_ret ?_
   )
  |(refine e_id ?_; first
   |refine e_alloc rfl rfl rfl rfl rfl rfl ?_
   |refine e_one rfl rfl rfl rfl rfl ?_
   |refine e_end rfl ?_
   )
  |(simp (disch:=assumption) only [decide_eq_true,decide_eq_false])
  |refine ck_seq (c:=cr (cr (bo Tryz.f25))) rfl ?_
  |refine ck_seq (c:=cr (bo Tryz.f25)) rfl ?_
  |refine ck_seq (c:=bo Tryz.f25) rfl ?_
  |exact W1.same _
  |exact W1.no _ _
  |exact W1.any _ rfl
  |exact sub3_nil
  |(simp only [lit_list,wrapK_i64,wrapK_i32,wrapK_u8,wrap64_u8,Int.reduceToNat,Int.toNat_natCast])
  |(simp (disch:=assumption) only [if_pos,if_neg] at H)
  |(simp only [Option.bind_some] at H)
  |(simp only [beq_dec,bne_dec,decide_eq_true_eq] at H)
  |(have hh:=ite_none_ H; clear H; obtain ⟨hc,H⟩:=hh)
  |(have hh:=ite_none2_ H; clear H; obtain ⟨hc,H⟩:=hh)
  |(refine (ite_some_ H).elim (fun hh=>?_) (fun hh=>?_)<;>clear H<;>obtain ⟨hc,H⟩:=hh<;>first|(cases H; done)|(cases hc; done)|(exact absurd rfl hc)|(subst hc; done)|rw [decide_eq_true hc]|rw [decide_eq_false hc]|rw [@decide_eq_true _ (_) hc]|rw [@decide_eq_false _ (_) hc]|subst hc|(obtain rfl:=Bool.eq_false_iff.2 hc)|rw [hc]|rw [Bool.eq_false_iff.2 hc])
 ·have hb:=Option.bind_eq_some_iff.1 H; clear H; obtain ⟨y,hN,H⟩:=hb
  have hb:=Option.bind_eq_some_iff.1 H; clear H; obtain ⟨z,hS,H⟩:=hb
  obtain rfl:=Option.some.inj H
  unfold impl_Set.f at hS
  split at hS
  ·rename_i hc
   obtain rfl:=Option.some.inj hS
   exact ck_less (less_cons rfl (less_cons rfl (less_cons rfl less_nil))) rfl (midTree_last ⟨_,_,_,_,_⟩ ⟨y.1,y.2.1,y.2.2.1,y.2.2.2.1,y.2.2.2.2⟩ hN hc.1 hc.2)
  ·cases hS
 ·obtain rfl:=Option.some.inj H
  exact ce_less (less_cons rfl less_nil) rfl midTree_zero
end Go.Proofs.YtdlhidjphaaklaaGreat.V
end
section
namespace Go.Proofs.YtdlhidjphaaklaaGreat.M
open Go.RowKit Go.Proofs.YtdlhidjphaaklaaGreat.P Go.Proofs.YtdlhidjphaaklaaGreatW.PrintWords
theorem str_digit (d:Nat) (h:d<10):strOfNums [((48 + d:Nat):Int)]=⟨#[UInt8.ofNat (48 + d)]⟩:=by
  have:∀ d:Fin 10,strOfNums [((48 + d.val:Nat):Int)]=⟨#[UInt8.ofNat (48 + d.val)]⟩:=by decide +kernel
  exact this ⟨d,h⟩
theorem enc_digit (d:Nat) (h:d<10):Utf8.encode ((48 + d:Nat):Int)=⟨#[UInt8.ofNat (48 + d)]⟩:=by
  have:∀ d:Fin 10,Utf8.encode ((48 + d.val:Nat):Int)=⟨#[UInt8.ofNat (48 + d.val)]⟩:=by decide +kernel
  exact this ⟨d,h⟩
theorem ba_append (a b:List UInt8):(⟨a.toArray⟩:ByteArray) ++ (⟨b.toArray⟩:ByteArray)=⟨(a ++ b).toArray⟩:=by
  apply ByteArray.ext
  simp
theorem ba_size (a:List UInt8):(⟨a.toArray⟩:ByteArray).size=a.length:=by simp [ByteArray.size]
def sgn (b:Bool):List UInt8:=if b=true then [45] else []
def body (n:Nat):List UInt8:=if n=0 then [] else natDigs n
theorem tdiv_abs (x:Int):(Int.tdiv x 10).natAbs=x.natAbs / 10:=by
  rw [Int.natAbs_tdiv]; rfl
theorem tmod_abs (x:Int):(Int.tmod x 10).natAbs=x.natAbs % 10:=by
  rw [Int.natAbs_tmod]; rfl
theorem tmod_rng (x:Int) : -10<Int.tmod x 10∧Int.tmod x 10<10:=by
  have h1:=tmod_abs x
  omega
theorem tdiv_rng {x:Int} (h0 : -9223372036854775808≤x) (h1:x≤9223372036854775807) : -922337203685477580≤Int.tdiv x 10∧Int.tdiv x 10≤922337203685477580:=by
  have h:=tdiv_abs x
  omega
theorem body_step {n:Nat} (h:n ≠ 0):body n=body (n / 10) ++ [UInt8.ofNat (48 + n % 10)]:=by
  unfold body
  rw [if_neg h]
  by_cases h9:n<10
  · have : n / 10 = 0 := by omega
    rw [natDigs_lt h9,if_pos this,List.nil_append,Nat.mod_eq_of_lt h9]
  · have : ¬ n / 10 = 0 := by omega
    rw [natDigs_ge h9,if_neg this]
theorem body_len {n:Nat} (h:n≤9223372036854775808):(body n).length≤19:=by
  unfold body
  split
  · simp
  · exact natDigs_len20 h
theorem spec_loop (b : Bool) : ∀ (n : Nat) (x : Int) (out : List UInt8) (k : Nat), x.natAbs = n → -9223372036854775808 ≤ x → x ≤ 9223372036854775807 → n < k → out.length + (body n).length < 9223372036854775700 →
    spec_Digits.l0 k x b ⟨out.toArray⟩=some ⟨(sgn b ++ body n ++ out).toArray⟩:=by
  intro n
  induction n using Nat.strongRecOn with
  | _ n ih =>
    intro x out k hx h0 h1 hk hl
    obtain ⟨k,rfl⟩:∃ m,k=m + 1:=⟨k - 1,by omega⟩
    simp only [spec_Digits.l0]
    by_cases hz:x=0
    · subst hz
      have hn:n=0:=by simpa using hx.symm
      subst hn
      rw [if_pos rfl]
      cases b
      · simp [sgn,body]
      · rw [if_pos rfl, if_pos (by rw [ba_size]; omega)]
        rw [show (⟨#[45]⟩:ByteArray)=⟨[45].toArray⟩ from rfl,ba_append]
        simp [sgn,body]
    · have hn : n ≠ 0 := by omega
      have hm:=tmod_rng x
      have hma:=tmod_abs x
      have hd:=tdiv_rng h0 h1
      have hda:=tdiv_abs x
      rw [if_neg hz]
      have key:∀ D:Int,D=((48 + n % 10:Nat):Int)→((some ([D % 256]:List Int)).bind fun y=>if (strOfNums y).size + (⟨out.toArray⟩:ByteArray).size≤9223372036854775807 then spec_Digits.l0 k (wrap64 (Int.tdiv x 10)) b (strOfNums y ++ ⟨out.toArray⟩) else none)=some ⟨(sgn b ++ body n ++ out).toArray⟩:=by
        intro D hD
        subst hD
        have e:(((48 + n % 10:Nat):Int) % 256)=((48 + n % 10:Nat):Int):=by omega
        rw [Option.bind_some,e,str_digit _ (by omega),show (⟨#[UInt8.ofNat (48 + n % 10)]⟩:ByteArray)=⟨[UInt8.ofNat (48 + n % 10)].toArray⟩ from rfl,ba_size,ba_size,if_pos (by simp only [List.length_singleton]; omega),ba_append,w64 (by omega) (by omega)]
        rw [ih (n / 10) (by omega) (Int.tdiv x 10) _ k (by rw [hda,hx]) (by omega) (by omega) (by omega) (by rw [body_step hn] at hl; simp only [List.length_append,List.length_cons,List.length_nil] at hl ⊢; omega)]
        rw [body_step hn]
        simp
      by_cases hneg:Int.tmod x 10<0
      · rw [if_pos hneg]
        exact key _ (by rw [w64 (i := -(Int.tmod x 10)) (by omega) (by omega),w64 (by omega) (by omega)]; omega)
      · rw [if_neg hneg]
        exact key _ (by rw [w64 (by omega) (by omega)]; omega)
theorem spec_digits (n:Int) (h0 : -9223372036854775808≤n) (h1:n≤9223372036854775807) (k:Nat) (hk:n.natAbs<k):spec_Digits.f k n=some (digits n):=by
  unfold spec_Digits.f
  by_cases hz:n=0
  · rw [if_pos hz]
    subst hz
    unfold digits
    rw [show (0:Int).natAbs=0 from rfl,natDigs_lt (by omega)]
    rfl
  · rw [if_neg hz, show (⟨#[]⟩ : ByteArray) = ⟨([] : List UInt8).toArray⟩ from rfl, spec_loop _ n.natAbs n [] k rfl h0 h1 hk (by have := body_len (n := n.natAbs) (by omega); simp only [List.length_nil]; omega)]
    unfold digits sgn body
    have:¬ n.natAbs=0:=by omega
    by_cases h:n<0 <;> simp [h,this]
theorem impl_nat:∀ (n:Nat) (k:Nat),n≤9223372036854775807→2*n + 1<k→impl_Digits.f k (n:Int)=some ⟨(natDigs n).toArray⟩:=by
  intro n
  induction n using Nat.strongRecOn with
  | _ n ih =>
    intro k hn hk
    obtain ⟨k,rfl⟩:∃ m,k=m + 2:=⟨k - 2,by omega⟩
    simp only [impl_Digits.f]
    rw [if_neg (by omega)]
    simp only [impl_Digits.j0]
    rw [if_neg (by simp),if_neg (by omega)]
    by_cases h:n<10
    · rw [if_pos (by omega), natDigs_lt h]
      have e:wrap32 (wrap64 (48 + (n:Int)))=((48 + n:Nat):Int):=by rw [w64 (by omega) (by omega),w32 (by omega) (by omega)]; omega
      rw [e,enc_digit n h]
    · rw [if_neg (by omega)]
      have hd:wrap64 (Int.tdiv (n:Int) 10)=((n / 10:Nat):Int):=by
        have:=tdiv_abs (n:Int)
        rw [Int.tdiv_eq_ediv_of_nonneg (by omega),w64 (by omega) (by omega)]
        omega
      have hm:Int.tmod (n:Int) 10=((n % 10:Nat):Int):=by rw [Int.tmod_eq_emod_of_nonneg (by omega)]; omega
      have e:wrap32 (wrap64 (48 + Int.tmod (n:Int) 10))=((48 + n % 10:Nat):Int):=by rw [hm,w64 (by omega) (by omega),w32 (by omega) (by omega)]; omega
      rw [hd,ih (n / 10) (by omega) k (by omega) (by omega),Option.bind_some,e,enc_digit _ (by omega)]
      have hl:=natDigs_len20 (n:=n / 10) (by omega)
      rw [show (⟨#[UInt8.ofNat (48 + n % 10)]⟩:ByteArray)=⟨[UInt8.ofNat (48 + n % 10)].toArray⟩ from rfl,ba_size,ba_size,if_pos (by simp; omega),ba_append,← natDigs_ge h]
theorem impl_neg:∀ (n:Nat) (k:Nat),0<n→n≤9223372036854775808→2*n + 25<k→impl_Digits.f k (-(n:Int))=some ⟨(45 :: natDigs n).toArray⟩:=by
  intro n
  induction n using Nat.strongRecOn with
  | _ n ih =>
    intro k h0 hn hk
    obtain ⟨k,rfl⟩:∃ m,k=m + 2:=⟨k - 2,by omega⟩
    simp only [impl_Digits.f]
    rw [if_pos (by omega)]
    simp only [impl_Digits.j0]
    have hl:=natDigs_len20 hn
    by_cases h:n<10
    · rw [if_pos (by simp; omega), w64 (by omega) (by omega), Int.neg_neg, impl_nat n k (by omega) (by omega), Option.bind_some, ba_size, if_pos (by omega), show (⟨#[45]⟩ : ByteArray) = ⟨[45].toArray⟩ from rfl, ba_append]
      rfl
    · rw [if_neg (by simp; omega), if_pos (by omega)]
      have hda:=tdiv_abs (-(n:Int))
      have hma:=tmod_abs (-(n:Int))
      have hd:wrap64 (Int.tdiv (-(n:Int)) 10) = -((n / 10:Nat):Int):=by
        rw [Int.neg_tdiv,Int.tdiv_eq_ediv_of_nonneg (by omega),w64 (by omega) (by omega)]
        omega
      have hm:wrap64 (-(Int.tmod (-(n:Int)) 10))=((n % 10:Nat):Int):=by
        rw [Int.neg_tmod,Int.neg_neg,Int.tmod_eq_emod_of_nonneg (by omega),w64 (by omega) (by omega)]
        omega
      rw [hd,ih (n / 10) (by omega) k (by omega) (by omega) (by omega),Option.bind_some,hm,impl_nat (n % 10) k (by omega) (by omega),Option.bind_some,ba_size,ba_size]
      have hl2:=natDigs_len20 (n:=n / 10) (by omega)
      have hl3:=natDigs_len20 (n:=n % 10) (by omega)
      rw [if_pos (by simp; omega),ba_append,natDigs_ge h,natDigs_lt (n:=n % 10) (by omega)]
      simp
theorem impl_digits (n:Int) (h0 : -9223372036854775808≤n) (h1:n≤9223372036854775807) (k:Nat) (hk:2*n.natAbs + 25<k):impl_Digits.f k n=some (digits n):=by
  unfold digits
  by_cases h:n<0
  · have e : n = -((n.natAbs : Nat) : Int) := by omega
    rw [if_pos h]
    conv=>lhs; rw [e]
    exact impl_neg n.natAbs k (by omega) (by omega) hk
  · have e : n = ((n.natAbs : Nat) : Int) := by omega
    rw [if_neg h]
    conv=>lhs; rw [e]
    exact impl_nat n.natAbs k (by omega) (by omega)
def BIG:Nat:=30000000000000
theorem l1In_eq (n a b:Int):spec_l1In.f n a b=some (inB n a b):=by
  unfold spec_l1In.f inB
  by_cases h:n ≥ a
  · have : a ≤ n := h
    simp [this]
  · have : ¬ a ≤ n := h
    simp [this]
theorem from_eq (n a b:Int):impl_from.f n a b=some (inB n a b):=l1In_eq n a b
theorem in_rng {n a b:Int} (h:inB n a b=true):a≤n∧n≤b:=by
  unfold inB at h
  simp only [Bool.and_eq_true,decide_eq_true_eq] at h
  exact h
theorem tdiv_n {n:Int} (h:0≤n) (c:Int):Int.tdiv n c=n / c:=Int.tdiv_eq_ediv_of_nonneg h
theorem tmod_n {n:Int} (h:0≤n) (c:Int):Int.tmod n c=n % c:=Int.tmod_eq_emod_of_nonneg h
def amountText (n:Int):ByteArray :=
  if inB n 0 1000000000000=true then (if n ≠ 0∧n % 1000000=0 then digits (n / 1000000) ++ ⟨#[107]⟩ else if n % 1000=0 then digits (n / 1000) else digits n ++ ⟨#[109]⟩) else ⟨#[]⟩
def spanText (n:Int):ByteArray :=
  if inB n 0 1000000=true then (if n ≠ 0∧n % 3600=0 then digits (n / 3600) ++ ⟨#[104]⟩ else if n ≠ 0∧n % 60=0 then digits (n / 60) ++ ⟨#[109]⟩ else digits n ++ ⟨#[115]⟩) else ⟨#[]⟩
theorem digits_size {n:Int} (h0 : -9223372036854775808≤n) (h1:n≤9223372036854775807):(digits n).size≤20:=by
  unfold digits
  rw [ba_size,List.length_append]
  have:=natDigs_len20 (n:=n.natAbs) (by omega)
  split <;> simp <;> omega
theorem ite_size {a:ByteArray} {b:ByteArray} (h:a.size≤20):(if a.size + 1≤9223372036854775807 then some (a ++ b) else none)=some (a ++ b):=if_pos (by omega)
theorem spec_amountText (n:Int) (k:Nat) (hk:BIG<k):spec_AmountText.f k n=some (amountText n):=by
  unfold BIG at hk
  obtain ⟨k,rfl⟩:∃ m,k=m + 1:=⟨k - 1,by omega⟩
  unfold spec_AmountText.f amountText
  rw [l1In_eq,Option.bind_some]
  by_cases h:inB n 0 1000000000000=true
  · obtain ⟨h0, h1⟩ := in_rng h
    rw [if_pos h,if_pos h]
    simp only [spec_AmountText.j0,tdiv_n h0,tmod_n h0]
    rw [w64 (i:=n / 1000000) (by omega) (by omega),w64 (i:=n / 1000) (by omega) (by omega),spec_digits _ (by omega) (by omega) k (by omega),spec_digits _ (by omega) (by omega) k (by omega),spec_digits _ (by omega) (by omega) k (by omega)]
    simp only [Option.bind_some]
    rw [ite_size (digits_size (by omega) (by omega)),ite_size (digits_size (by omega) (by omega))]
    by_cases hz:n=0
    · subst hz; rfl
    · have : n > 0 := by omega
      rw [if_pos this]
      by_cases hm:n % 1000000=0
      · simp [hm,hz]
      · by_cases hm2:n % 1000=0 <;> simp [hm,hz,hm2]
  · rw [if_neg h,if_neg h]
theorem impl_amountText (n:Int) (k:Nat) (hk:BIG<k):impl_AmountText.f k n=some (amountText n):=by
  unfold BIG at hk
  obtain ⟨k,rfl⟩:∃ m,k=m + 1:=⟨k - 1,by omega⟩
  unfold impl_AmountText.f amountText impl_isAmount.f
  rw [from_eq,Option.bind_some,Option.bind_some]
  by_cases h:inB n 0 1000000000000=true
  · obtain ⟨h0, h1⟩ := in_rng h
    rw [if_pos h,if_pos h]
    simp only [impl_AmountText.j0,tdiv_n h0,tmod_n h0]
    rw [w64 (i:=n / 1000000) (by omega) (by omega),w64 (i:=n / 1000) (by omega) (by omega),impl_digits _ (by omega) (by omega) k (by omega),impl_digits _ (by omega) (by omega) k (by omega),impl_digits _ (by omega) (by omega) k (by omega)]
    simp only [Option.bind_some]
    rw [ite_size (digits_size (by omega) (by omega)),ite_size (digits_size (by omega) (by omega))]
    by_cases hz:n=0
    · subst hz; rfl
    · rw [if_neg hz]
      by_cases hm:n % 1000000=0
      · simp [hm,hz]
      · by_cases hm2:n % 1000=0 <;> simp [hm,hz,hm2]
  · rw [if_neg h,if_neg h]
theorem spec_spanText (n:Int) (k:Nat) (hk:BIG<k):spec_SpanText.f k n=some (spanText n):=by
  unfold BIG at hk
  obtain ⟨k,rfl⟩:∃ m,k=m + 2:=⟨k - 2,by omega⟩
  unfold spec_SpanText.f spanText
  rw [l1In_eq,Option.bind_some]
  by_cases h:inB n 0 1000000=true
  · obtain ⟨h0, h1⟩ := in_rng h
    rw [if_pos h,if_pos h]
    simp only [spec_SpanText.j0,spec_SpanText.j1,tdiv_n h0,tmod_n h0]
    rw [w64 (i:=n / 3600) (by omega) (by omega),w64 (i:=n / 60) (by omega) (by omega),spec_digits _ (by omega) (by omega) k (by omega),spec_digits _ (by omega) (by omega) (k + 1) (by omega),spec_digits _ (by omega) (by omega) k (by omega)]
    simp only [Option.bind_some]
    rw [ite_size (digits_size (by omega) (by omega)),ite_size (digits_size (by omega) (by omega)),ite_size (digits_size (by omega) (by omega))]
    by_cases hz:n=0
    · subst hz; rfl
    · have : n > 0 := by omega
      rw [if_pos this,if_pos this]
      by_cases hm:n % 3600=0
      · simp [hm,hz]
      · by_cases hm2:n % 60=0 <;> simp [hm,hz,hm2]
  · rw [if_neg h,if_neg h]
theorem impl_spanText (n:Int) (k:Nat) (hk:BIG<k):impl_SpanText.f k n=some (spanText n):=by
  unfold BIG at hk
  obtain ⟨k,rfl⟩:∃ m,k=m + 2:=⟨k - 2,by omega⟩
  unfold impl_SpanText.f spanText
  rw [from_eq,Option.bind_some]
  by_cases h:inB n 0 1000000=true
  · obtain ⟨h0, h1⟩ := in_rng h
    rw [if_pos h,if_pos h]
    simp only [impl_SpanText.j0,impl_SpanText.j1,tdiv_n h0,tmod_n h0]
    rw [w64 (i:=n / 3600) (by omega) (by omega),w64 (i:=n / 60) (by omega) (by omega),impl_digits _ (by omega) (by omega) k (by omega),impl_digits _ (by omega) (by omega) (k + 1) (by omega),impl_digits _ (by omega) (by omega) k (by omega)]
    simp only [Option.bind_some]
    rw [ite_size (digits_size (by omega) (by omega)),ite_size (digits_size (by omega) (by omega)),ite_size (digits_size (by omega) (by omega))]
    by_cases hz:n=0
    · subst hz; rfl
    · rw [if_neg hz]
      by_cases hm:n % 3600=0
      · simp [hm,hz]
      · by_cases hm2:n % 60=0 <;> simp [hm,hz,hm2]
  · rw [if_neg h,if_neg h]
theorem spec_textOk (s:ByteArray) (hs:s.size≤140737488351232) (k:Nat) (hk:s.size<k):spec_TextOk.f k s=some (textOk s):=by
  unfold spec_TextOk.f textOk
  refine scan0 (g:=fun k i=>spec_TextOk.l0 k s i) (fun k=>?_) (fun k i hi=>?_) k hk
  · simp only [spec_TextOk.l0]
    rw [if_neg (by omega)]
  · simp only [spec_TextOk.l0]
    rw [if_pos (by omega),if_pos (by omega),wsucc (by omega)]
    unfold textB
    by_cases h:bt s i<32
    · have h1 : ¬ 32 ≤ bt s i := by omega
      rw [if_pos h]; simp [h1]
    · have h1 : 32 ≤ bt s i := by omega
      rw [if_neg h]
      by_cases h2:bt s i > 126
      · have h3 : ¬ bt s i ≤ 126 := by omega
        rw [if_pos h2]; simp [h3]
      · have h3 : bt s i ≤ 126 := by omega
        rw [if_neg h2]; simp [h1,h3]
theorem impl_textOk (s:ByteArray) (hs:s.size≤140737488351232) (k:Nat) (hk:s.size<k):impl_TextOk.f k s=some (textOk s):=by
  unfold impl_TextOk.f textOk
  refine scan0 (g:=fun k i=>impl_TextOk.l0 k s (s.size:Int) i) (fun k=>?_) (fun k i hi=>?_) k hk
  · simp only [impl_TextOk.l0]
    rw [if_neg (by omega)]
  · simp only [impl_TextOk.l0]
    have hb:=bt_range s i
    rw [if_pos (by omega),if_pos (by omega),if_pos (by omega),wsucc (by omega),w64 (by omega) (by omega),from_eq,Option.bind_some]
    rfl
theorem drop_bytes (s:ByteArray) (i:Nat) (h:i<s.size):(bytesOf s).drop i=bt s i :: (bytesOf s).drop (i + 1):=by
  have hl:i<(bytesOf s).length:=by rw [bytesOf_length]; exact h
  rw [List.drop_eq_getElem_cons hl]
  congr 1
  have:=rd_bytesOf s i
  unfold rd at this
  rw [Int.toNat_natCast,List.getD_eq_getElem?_getD,List.getElem?_eq_getElem hl] at this
  exact this
def esc (c:Int):List Int:=if c=34 ∨ c=92 then [92,c] else [c]
def escs (l:List Int):List Int:=l.flatMap esc
theorem escs_cons (c:Int) (l:List Int):escs (c :: l)=esc c ++ escs l:=by simp [escs]
def quoteL (l:List Int):List Int:=34 :: (escs l ++ [34])
def quote (s:ByteArray):ByteArray:=if textOk s=true then strOfNums (quoteL (bytesOf s)) else ⟨#[]⟩
theorem quote_loop (s : ByteArray) (hs : s.size ≤ 1048576) : ∀ (d i k : Nat) (out : List Int), i + d = s.size → d < k → out.length + 2 * d < 140737488355328 →
    spec_Quote.l0 k s out (i:Int)=some (strOfNums (out ++ escs ((bytesOf s).drop i) ++ [34])):=by
  intro d
  induction d with
  | zero =>
    intro i k out hi hk hl
    obtain ⟨k,rfl⟩:∃ m,k=m + 1:=⟨k - 1,by omega⟩
    obtain rfl:i=s.size:=by omega
    simp only [spec_Quote.l0]
    rw [if_neg (by omega),if_pos (by omega),List.drop_of_length_le (by rw [bytesOf_length]; omega)]
    simp [escs]
  | succ d ih =>
    intro i k out hi hk hl
    obtain ⟨k,rfl⟩:∃ m,k=m + 1:=⟨k - 1,by omega⟩
    simp only [spec_Quote.l0]
    rw [if_pos (by omega),if_pos (by omega),wsucc (by omega),drop_bytes s i (by omega),escs_cons]
    by_cases h1:bt s i=34
    · rw [if_pos h1, if_pos (by omega), Option.bind_some, if_pos (by simp; omega), ih (i + 1) k _ (by omega) (by omega) (by simp; omega)]
      simp [esc,h1]
    · rw [if_neg h1]
      by_cases h2:bt s i=92
      · rw [if_pos h2, if_pos (by omega), Option.bind_some, if_pos (by simp; omega), ih (i + 1) k _ (by omega) (by omega) (by simp; omega)]
        simp [esc,h2]
      · rw [if_neg h2, if_pos (by omega), ih (i + 1) k _ (by omega) (by omega) (by simp; omega)]
        simp [esc,h1,h2]
theorem quote_same (s : ByteArray) : ∀ (k : Nat) (out : List Int) (i : Int), impl_Quote.l0 k s out (s.size : Int) i = spec_Quote.l0 k s out i
  | 0,_,_=>rfl
  | k + 1,out,i=>by
    simp only [impl_Quote.l0,spec_Quote.l0,quote_same s k]
    by_cases h:i<(s.size:Int)
    · simp only [if_pos h]
    · simp only [if_neg h]
theorem spec_quote (s:ByteArray) (hs:s.size≤1048576) (k:Nat) (hk:s.size<k):spec_Quote.f k s=some (quote s):=by
  unfold spec_Quote.f quote
  rw [spec_textOk s (by omega) k hk,Option.bind_some]
  by_cases h:textOk s=true
  · have e := quote_loop s hs s.size 0 k [34] (by omega) hk (by simp; omega)
    rw [if_pos h,if_pos h]
    exact e
  · rw [if_neg h,if_neg h]
theorem impl_quote (s:ByteArray) (hs:s.size≤1048576) (k:Nat) (hk:s.size<k):impl_Quote.f k s=some (quote s):=by
  rw [← spec_quote s hs k hk]
  unfold spec_Quote.f impl_Quote.f
  rw [impl_textOk s (by omega) k hk,spec_textOk s (by omega) k hk,quote_same]
theorem kid_size {a x:S32} (h:x ∈ a.f4):SizeOf.sizeOf x<SizeOf.sizeOf a:=by
  obtain ⟨f0,f1,f2,f3,f4⟩:=a
  have h':x ∈ f4:=h
  have:=List.sizeOf_lt_of_mem h'
  simp only [S32.mk.sizeOf_spec]
  omega
def totK : S32 → Nat
  | ⟨_,_,s,ks,kids⟩=>s.size + (ks.length + (ks.map ByteArray.size).sum) + (kids.length + (kids.attach.map fun x=>totK x.1).sum)
termination_by x=>SizeOf.sizeOf x
decreasing_by
  have:=List.sizeOf_lt_of_mem x.2
  simp only [S32.mk.sizeOf_spec]
  omega
theorem totK_eq (a:S32):totK a=a.f2.size + (a.f3.length + (a.f3.map ByteArray.size).sum) + (a.f4.length + (a.f4.map totK).sum):=by
  obtain ⟨f0,f1,f2,f3,f4⟩:=a
  rw [totK]
  congr 2
  simp
theorem totK_kid {a x:S32} (h:x ∈ a.f4):totK x + 1≤totK a:=by
  have:=mem_le_sum totK a.f4 x h
  have:=List.length_pos_of_mem h
  rw [totK_eq a]
  omega
theorem tree_ind {P:S32→Prop} (h:∀ a,(∀ x ∈ a.f4,P x)→P a) (a:S32):P a:=by
  have key:∀ n,∀ a:S32,SizeOf.sizeOf a≤n→P a:=by
    intro n
    induction n with
    | zero=>intro a ha; exfalso; obtain ⟨f0,f1,f2,f3,f4⟩:=a; simp only [S32.mk.sizeOf_spec] at ha; omega
    | succ n ih=>intro a ha; exact h a (fun x hx=>ih x (by have:=kid_size hx; omega))
  exact key _ a (Nat.le_refl _)
def deepK : S32 → Nat
  | ⟨_,_,_,_,kids⟩=>(kids.attach.map fun x=>deepK x.1).foldl max 0 + 1
termination_by x=>SizeOf.sizeOf x
decreasing_by
  have:=List.sizeOf_lt_of_mem x.2
  simp only [S32.mk.sizeOf_spec]
  omega
theorem deepK_eq (a:S32):deepK a=(a.f4.map deepK).foldl max 0 + 1:=by
  obtain ⟨f0,f1,f2,f3,f4⟩:=a
  rw [deepK]
  congr 2
  simp
def sizeK : S32 → Nat
  | ⟨_,_,_,_,kids⟩=>(kids.attach.map fun x=>sizeK x.1).foldl (· + ·) 1
termination_by x=>SizeOf.sizeOf x
decreasing_by
  have:=List.sizeOf_lt_of_mem x.2
  simp only [S32.mk.sizeOf_spec]
  omega
theorem sizeK_eq (a:S32):sizeK a=(a.f4.map sizeK).foldl (· + ·) 1:=by
  obtain ⟨f0,f1,f2,f3,f4⟩:=a
  rw [sizeK]
  congr 1
  simp
theorem foldl_add (l:List Nat):∀ n,l.foldl (· + ·) n=n + l.sum:=by
  induction l with
  | nil=>simp
  | cons x xs ih=>intro n; rw [List.foldl_cons,ih,List.sum_cons]; omega
theorem foldl_max_le {l:List Nat} {b:Nat}:∀ n,n≤b→(∀ x ∈ l,x≤b)→l.foldl max n≤b:=by
  induction l with
  | nil=>intro n h _; exact h
  | cons x xs ih=>intro n h hx; exact ih _ (Nat.max_le.2 ⟨h,hx x (by simp)⟩) (fun y hy=>hx y (by simp [hy]))
theorem le_foldl_max {l:List Nat}:∀ n,n≤l.foldl max n:=by
  induction l with
  | nil=>intro n; exact Nat.le_refl _
  | cons x xs ih=>intro n; exact Nat.le_trans (Nat.le_max_left _ _) (ih _)
theorem mem_foldl_max {l:List Nat} {x:Nat}:∀ n,x ∈ l→x≤l.foldl max n:=by
  induction l with
  | nil=>intro n h; cases h
  | cons y ys ih =>
    intro n h
    rcases List.mem_cons.1 h with rfl | h
    · exact Nat.le_trans (Nat.le_max_right _ _) (le_foldl_max _)
    · exact ih _ h
theorem deepK_le (a:S32):deepK a≤totK a + 1:=by
  refine tree_ind (P:=fun a=>deepK a≤totK a + 1) (fun a ih=>?_) a
  rw [deepK_eq]
  have:(a.f4.map deepK).foldl max 0≤totK a:=foldl_max_le 0 (Nat.zero_le _) (fun y hy=>by
    obtain ⟨x,hx,rfl⟩:=List.mem_map.1 hy
    have:=ih x hx
    have:=totK_kid hx
    omega)
  omega
theorem sizeK_le (a:S32):sizeK a≤totK a + 1:=by
  refine tree_ind (P:=fun a=>sizeK a≤totK a + 1) (fun a ih=>?_) a
  rw [sizeK_eq,foldl_add,totK_eq]
  have:∀ l:List S32,(∀ x ∈ l,sizeK x≤totK x + 1)→(l.map sizeK).sum≤l.length + (l.map totK).sum:=by
    intro l
    induction l with
    | nil=>simp
    | cons x xs ih2 =>
      intro h
      have h1:=h x (by simp)
      have h2:=ih2 (fun y hy=>h y (by simp [hy]))
      simp only [List.map_cons,List.sum_cons,List.length_cons]
      omega
  have:=this a.f4 ih
  omega
theorem deepK_kid {a x:S32} (h:x ∈ a.f4):deepK x + 1≤deepK a:=by
  rw [deepK_eq a]
  have:=mem_foldl_max 0 (List.mem_map_of_mem (f:=deepK) h)
  omega
theorem rdK (xs:List S32) (i:Nat) (h:i<xs.length):rd_T32 xs (i:Int)=xs[i]:=by
  show xs.getD (i:Int).toNat z32=xs[i]
  rw [Int.toNat_natCast,List.getD_eq_getElem?_getD,List.getElem?_eq_getElem h]
  rfl
theorem rdB (xs:List ByteArray) (i:Nat):rdOf ByteArray.empty xs (i:Int)=xs.getD i ByteArray.empty:=rfl
theorem spec_deep_ev (a:S32):totK a≤1048576→Ev (fun k=>spec_l3Deep.f k a.f0 a.f1 a.f2 a.f3 a.f4) (deepK a:Int):=by
  refine tree_ind (P:=fun a=>totK a≤1048576→Ev (fun k=>spec_l3Deep.f k a.f0 a.f1 a.f2 a.f3 a.f4) (deepK a:Int)) (fun a ih ht=>?_) a
  have hl:a.f4.length≤1048576:=by have:=totK_eq a; omega
  refine Ev.step (f:=fun k=>spec_l3Deep.l0 k 0 0 a.f0 a.f1 a.f2 a.f3 a.f4) (fun k=>by simp only [spec_l3Deep.f]) ?_
  have e := ev_fold0 (xs := a.f4) (l0 := fun k (s : Nat) i => spec_l3Deep.l0 k (s : Int) i a.f0 a.f1 a.f2 a.f3 a.f4) (step := fun s x => max s (deepK x)) (fin := fun s => ((s + 1 : Nat) : Int)) (fun _ s => s ≤ 1048577) 0 (Nat.zero_le _)
    (fun s hs=>Ev.step (f:=fun _=>some ((s + 1:Nat):Int)) (fun k=>by simp only [spec_l3Deep.l0]; rw [if_neg (by omega),wsucc (by omega)]) (Ev.now _))
    (fun i hi s r hs=>⟨by
        have:=ih _ (List.getElem_mem hi) (by have:=totK_kid (List.getElem_mem hi); omega)
        have h1:=deepK_le a.f4[i]
        have h2:=totK_kid (List.getElem_mem hi)
        exact Nat.max_le.2 ⟨hs,by omega⟩,fun h=>by
      have h2:=totK_kid (List.getElem_mem hi)
      refine Ev.step (f:=fun k=>(spec_l3Deep.f k a.f4[i].f0 a.f4[i].f1 a.f4[i].f2 a.f4[i].f3 a.f4[i].f4).bind fun t741=>((spec_l1Max.f (s:Int) t741).bind fun t742=>(spec_l3Deep.l0 k t742 ((i + 1:Nat):Int) a.f0 a.f1 a.f2 a.f3 a.f4))) (fun k=>by
        simp only [spec_l3Deep.l0]
        rw [if_pos (by omega),if_pos (by omega),rdK _ _ hi,wsucc (by omega)]) ?_
      refine Ev.bind (ih _ (List.getElem_mem hi) (by omega)) ?_
      have hm:spec_l1Max.f (s:Int) (deepK a.f4[i]:Int)=some ((max s (deepK a.f4[i]):Nat):Int):=by
        unfold spec_l1Max.f
        by_cases c:(s:Int) > (deepK a.f4[i]:Int)
        · rw [if_pos c]; congr 1; omega
        · rw [if_neg c]; congr 1; omega
      rw [hm]
      exact h⟩)
  have e2:(a.f4.foldl (fun s x=>max s (deepK x)) 0 + 1:Nat)=deepK a:=by rw [deepK_eq,List.foldl_map]
  rw [← e2]
  exact e
theorem spec_size_ev (a:S32):totK a≤1048576→Ev (fun k=>spec_l3Size.f k a.f0 a.f1 a.f2 a.f3 a.f4) (sizeK a:Int):=by
  refine tree_ind (P:=fun a=>totK a≤1048576→Ev (fun k=>spec_l3Size.f k a.f0 a.f1 a.f2 a.f3 a.f4) (sizeK a:Int)) (fun a ih ht=>?_) a
  have hl:a.f4.length≤1048576:=by have:=totK_eq a; omega
  refine Ev.step (f:=fun k=>spec_l3Size.l0 k 1 0 a.f0 a.f1 a.f2 a.f3 a.f4) (fun k=>by simp only [spec_l3Size.f]) ?_
  have e := ev_fold0 (xs := a.f4) (l0 := fun k (s : Nat) i => spec_l3Size.l0 k (s : Int) i a.f0 a.f1 a.f2 a.f3 a.f4) (step := fun s x => s + sizeK x) (fin := fun s => (s : Int)) (fun i s => s ≤ 1 + 1048577 * i) 1 (by omega)
    (fun s hs=>Ev.step (f:=fun _=>some (s:Int)) (fun k=>by simp only [spec_l3Size.l0]; rw [if_neg (by omega)]) (Ev.now _))
    (fun i hi s r hs=>⟨by
        have h1:=sizeK_le a.f4[i]
        have h2:=totK_kid (List.getElem_mem hi)
        show s + sizeK a.f4[i]≤_
        omega,fun h=>by
      have h1:=sizeK_le a.f4[i]
      have h2:=totK_kid (List.getElem_mem hi)
      refine Ev.step (f:=fun k=>(spec_l3Size.f k a.f4[i].f0 a.f4[i].f1 a.f4[i].f2 a.f4[i].f3 a.f4[i].f4).bind fun t745=>(spec_l3Size.l0 k (wrap64 ((s:Int) + t745)) ((i + 1:Nat):Int) a.f0 a.f1 a.f2 a.f3 a.f4)) (fun k=>by
        simp only [spec_l3Size.l0]
        rw [if_pos (by omega),if_pos (by omega),rdK _ _ hi,wsucc (by omega)]) ?_
      refine Ev.bind (ih _ (List.getElem_mem hi) (by omega)) ?_
      have hm:wrap64 ((s:Int) + (sizeK a.f4[i]:Int))=((s + sizeK a.f4[i]:Nat):Int):=by
        rw [w64 (by omega) (by omega)]; omega
      rw [hm]
      exact h⟩)
  have e2:a.f4.foldl (fun s x=>s + sizeK x) 1=sizeK a:=by rw [sizeK_eq,List.foldl_map]
  rw [← e2]
  exact e
def szd : Nat → S32 → Nat × Nat
  | 0,_=>(201,9)
  | r + 1,a=>((a.f4.foldl (fun p x=>(min (p.1 + (szd r x).1) 201,max p.2 (szd r x).2)) (1,0)).1,(a.f4.foldl (fun p x=>(min (p.1 + (szd r x).1) 201,max p.2 (szd r x).2)) (1,0)).2 + 1)
theorem szd_rng : ∀ r a, (szd r a).1 ≤ 201 ∧ (szd r a).2 ≤ 9 + r
  | 0,_=>⟨Nat.le_refl _,Nat.le_refl _⟩
  | r + 1,a=>by
    have key:∀ (l:List S32) (p:Nat × Nat),p.1≤201→p.2≤9 + r→(l.foldl (fun p x=>(min (p.1 + (szd r x).1) 201,max p.2 (szd r x).2)) p).1≤201∧(l.foldl (fun p x=>(min (p.1 + (szd r x).1) 201,max p.2 (szd r x).2)) p).2≤9 + r:=by
      intro l
      induction l with
      | nil=>intro p h1 h2; exact ⟨h1,h2⟩
      | cons x xs ih=>intro p h1 h2; exact ih _ (Nat.min_le_right _ _) (Nat.max_le.2 ⟨h2,(szd_rng r x).2⟩)
    have:=key a.f4 (1,0) (by omega) (by omega)
    exact ⟨this.1,by show _ + 1≤_; omega⟩
theorem impl_size_ev : ∀ (r : Nat) (a : S32), r ≤ 100 → totK a ≤ 1048576 → Ev (fun k => impl_size.f k a.f0 a.f1 a.f2 a.f3 a.f4 (r : Int)) (((szd r a).1 : Int), ((szd r a).2 : Int))
  | 0,a,_,_=>Ev.step (f:=fun _=>some ((201:Int),(9:Int))) (fun k=>by simp only [impl_size.f]; rw [if_pos (show ((0:Nat):Int)=0 from rfl)]) (Ev.now _)
  | r + 1,a,hr,ht=>by
    have hl:a.f4.length≤1048576:=by have:=totK_eq a; omega
    refine Ev.step (f:=fun k=>impl_size.l0 k ((r + 1:Nat):Int) 1 0 a.f4 (a.f4.length:Int) 0) (fun k=>by simp only [impl_size.f]; rw [if_neg (by omega)]) ?_
    have e := ev_fold0 (xs := a.f4) (l0 := fun k (s : Nat × Nat) i => impl_size.l0 k ((r + 1 : Nat) : Int) (s.1 : Int) (s.2 : Int) a.f4 (a.f4.length : Int) i) (step := fun p x => (min (p.1 + (szd r x).1) 201, max p.2 (szd r x).2)) (fin := fun s => ((s.1 : Int), ((s.2 + 1 : Nat) : Int))) (fun _ s => s.1 ≤ 201 ∧ s.2 ≤ 9 + r) (1, 0) ⟨by decide, by show 0 ≤ 9 + r; omega⟩
      (fun s hs=>Ev.step (f:=fun _=>some ((s.1:Int),((s.2 + 1:Nat):Int))) (fun k=>by simp only [impl_size.l0]; rw [if_neg (by omega),wsucc (by omega)]) (Ev.now _))
      (fun i hi s r' hs=>⟨⟨Nat.min_le_right _ _,Nat.max_le.2 ⟨hs.2,(szd_rng r _).2⟩⟩,fun h=>by
        have h2:=totK_kid (List.getElem_mem hi)
        have h3:=szd_rng r a.f4[i]
        have hw:wrap64 (((r + 1:Nat):Int) - 1)=(r:Int):=by rw [w64 (by omega) (by omega)]; omega
        refine Ev.step (f:=fun k=>(impl_size.f k a.f4[i].f0 a.f4[i].f1 a.f4[i].f2 a.f4[i].f3 a.f4[i].f4 (r:Int)).bind fun bt767=>(impl_size.l0 k ((r + 1:Nat):Int) (mn (wrap64 ((s.1:Int) + bt767.1)) 201) (mx (s.2:Int) bt767.2) a.f4 (a.f4.length:Int) ((i + 1:Nat):Int))) (fun k=>by
          simp only [impl_size.l0]
          rw [if_pos (by omega),if_pos (by omega),if_pos (by omega),rdK _ _ hi,wsucc (by omega),hw]) ?_
        refine Ev.bind (impl_size_ev r _ (by omega) (by omega)) ?_
        have h1:mn (wrap64 ((s.1:Int) + ((szd r a.f4[i]).1:Int))) 201=((min (s.1 + (szd r a.f4[i]).1) 201:Nat):Int):=by
          rw [w64 (by omega) (by omega)]; unfold mn; omega
        have h4:mx (s.2:Int) ((szd r a.f4[i]).2:Int)=((max s.2 (szd r a.f4[i]).2:Nat):Int):=by
          unfold mx; omega
        rw [h1,h4]
        exact h⟩)
    exact e
theorem szd_le : ∀ r a, deepK a ≤ r → szd r a = (min (sizeK a) 201, deepK a)
  | 0,a,h=>by rw [deepK_eq] at h; omega
  | r + 1,a,h=>by
    have key:∀ (l:List S32),(∀ x ∈ l,x ∈ a.f4)→∀ (p:Nat × Nat) (n:Nat),p.1=min n 201→l.foldl (fun p x=>(min (p.1 + (szd r x).1) 201,max p.2 (szd r x).2)) p=(min ((l.map sizeK).foldl (· + ·) n) 201,(l.map deepK).foldl max p.2):=by
      intro l
      induction l with
      | nil=>intro _ p n hp; exact Prod.ext hp rfl
      | cons x xs ih =>
        intro hx p n hp
        have hk:=deepK_kid (hx x (by simp))
        rw [List.foldl_cons,szd_le r x (by omega),ih (fun y hy=>hx y (by simp [hy])) _ (n + sizeK x) (by show min (p.1 + min (sizeK x) 201) 201=_; rw [hp]; omega)]
        rfl
    have e:=key a.f4 (fun _ h=>h) (1,0) 1 rfl
    show ((a.f4.foldl _ (1,0)).1,(a.f4.foldl _ (1,0)).2 + 1)=_
    rw [e,sizeK_eq,deepK_eq]
theorem szd_gt : ∀ r a, r < deepK a → 9 + r ≤ (szd r a).2
  | 0,a,_=>Nat.le_refl _
  | r + 1,a,h=>by
    have hx:∃ x ∈ a.f4,r<deepK x:=by
      by_cases c:∃ x ∈ a.f4,r<deepK x
      · exact c
      · exfalso
        rw [deepK_eq] at h
        have:(a.f4.map deepK).foldl max 0≤r:=foldl_max_le 0 (Nat.zero_le _) (fun y hy=>by
          obtain ⟨x,hx,rfl⟩:=List.mem_map.1 hy
          exact Nat.le_of_not_lt (fun e=>c ⟨x,hx,e⟩))
        omega
    obtain ⟨x,hx,hd⟩:=hx
    have hs:=szd_gt r x hd
    have key:∀ (l:List S32) (p:Nat × Nat),(x ∈ l ∨ 9 + r≤p.2)→9 + r≤(l.foldl (fun p x=>(min (p.1 + (szd r x).1) 201,max p.2 (szd r x).2)) p).2:=by
      intro l
      induction l with
      | nil => intro p h; rcases h with h | h
               · cases h
               · exact h
      | cons y ys ih =>
        intro p h
        refine ih _ ?_
        rcases h with h | h
        · rcases List.mem_cons.1 h with rfl | h
          · exact .inr (Nat.le_trans hs (Nat.le_max_right _ _))
          · exact .inl h
        · exact .inr (Nat.le_trans h (Nat.le_max_left _ _))
    have:=key a.f4 (1,0) (.inl hx)
    show 9 + (r + 1)≤_ + 1
    omega
def keyB (l:List ByteArray) (i:Nat):Bool:=textOk (l.getD i ByteArray.empty) && (decide (i=0) || Op.bytesLess (l.getD (i - 1) ByteArray.empty).toList (l.getD i ByteArray.empty).toList)
def keysOk (l:List ByteArray):Bool:=(List.range' 0 l.length).all (keyB l)
def nodeB (a:S32):Bool :=
  if a.f0=3 then textOk a.f2 && shB 3 a.f1 (a.f2.toList == []) a.f3.length a.f4.length
  else if a.f0=5 then decide (a.f3.length=a.f4.length) && (keysOk a.f3 && (decide (a.f1=0) && (a.f2.toList == [])))
  else shB a.f0 a.f1 (a.f2.toList == []) a.f3.length a.f4.length
def rightK : S32 → Bool
  | ⟨a0,a1,a2,a3,kids⟩=>nodeB ⟨a0,a1,a2,a3,kids⟩ && (kids.attach.all fun x=>rightK x.1)
termination_by x=>SizeOf.sizeOf x
decreasing_by
  have:=List.sizeOf_lt_of_mem x.2
  simp only [S32.mk.sizeOf_spec]
  omega
theorem rightK_eq (a:S32):rightK a=(nodeB a && a.f4.all rightK):=by
  obtain ⟨f0,f1,f2,f3,f4⟩:=a
  rw [rightK]
  congr 1
  simp
def treeOkK (a:S32):Bool:=decide (deepK a≤8) && decide (sizeK a≤200) && rightK a
theorem key_size {l:List ByteArray} {i:Nat} (hi:i<l.length) (h:(l.map ByteArray.size).sum≤1048576):(l.getD i ByteArray.empty).size≤1048576:=by
  have:=mem_le_sum ByteArray.size l _ (List.getElem_mem hi)
  rw [List.getD_eq_getElem?_getD,List.getElem?_eq_getElem hi]
  show l[i].size≤_
  omega
theorem impl_keys_ev (e:Bool) (l:List ByteArray) (hs:(l.map ByteArray.size).sum≤1048576):Ev (fun k=>impl_shapeOk.l0 e k l 0) (keysOk l && e):=by
  refine ev_all (n:=l.length) (l0:=fun k i=>impl_shapeOk.l0 e k l i.toNat) (P:=keyB l) (e:=e) ?_ (fun i hi=>?_)
  · exact Ev.step (f:=fun _=>some e) (fun k=>by simp only [impl_shapeOk.l0,Int.toNat_natCast]; rw [if_neg (by omega)]) (Ev.now _)
  · have hsz := key_size hi hs
    have st:∀ k,impl_shapeOk.l0 e (k + 1) l (i:Int).toNat=(impl_TextOk.f k (l.getD i ByteArray.empty)).bind fun t=>(if t=true then (if 0<i then (if Op.bytesLess (rdOf ByteArray.empty l ((i:Int) - 1)).toList (l.getD i ByteArray.empty).toList=true then impl_shapeOk.l0 e k l (i + 1) else some false) else impl_shapeOk.l0 e k l (i + 1)) else some false):=fun k=>by
      simp only [impl_shapeOk.l0,Int.toNat_natCast]; rw [if_pos hi]; rfl
    have hT:Ev (fun k=>impl_TextOk.f k (l.getD i ByteArray.empty)) (textOk (l.getD i ByteArray.empty)):=Ev.past (fun k hk=>impl_textOk _ (by omega) k hk)
    have hp:∀ h:0<i,rdOf ByteArray.empty l ((i:Int) - 1)=l.getD (i - 1) ByteArray.empty:=fun h=>by
      have:(i:Int) - 1=((i - 1:Nat):Int):=by omega
      rw [this]; rfl
    unfold keyB
    cases ht:textOk (l.getD i ByteArray.empty) with
    | false =>
      refine ⟨fun h=>by simp at h,fun _=>Ev.step st (Ev.bind hT ?_)⟩
      rw [ht]
      exact Ev.now _
    | true =>
      rw [ht] at hT
      by_cases h0:0<i
      · have hd : decide (i = 0) = false := decide_eq_false (by omega)
        rw [hd,Bool.false_or,Bool.true_and]
        refine ⟨fun h r hr=>Ev.step st (Ev.bind hT ?_),fun h=>Ev.step st (Ev.bind hT ?_)⟩
        · simp only [if_true, h0, hp h0, h]
          exact hr
        · simp only [if_true, h0, hp h0, h]
          exact Ev.now _
      · have hd : decide (i = 0) = true := decide_eq_true (by omega)
        rw [hd,Bool.true_or,Bool.true_and]
        refine ⟨fun h r hr=>Ev.step st (Ev.bind hT ?_),fun h=>by cases h⟩
        simp only [if_true,h0,if_false]
        exact hr
theorem spec_keys_ev (l:List ByteArray) (hl:l.length≤1048576) (hs:(l.map ByteArray.size).sum≤1048576):Ev (fun k=>spec_l3Keys.f k l) (keysOk l):=by
  have e0:keysOk l=(keysOk l && true):=by rw [Bool.and_true]
  rw [e0]
  unfold spec_l3Keys.f
  refine ev_all (n:=l.length) (l0:=fun k i=>spec_l3Keys.l0 k l i) (P:=keyB l) (e:=true) ?_ (fun i hi=>?_)
  · exact Ev.step (f:=fun _=>some true) (fun k=>by simp only [spec_l3Keys.l0]; rw [if_neg (by omega)]) (Ev.now _)
  · have hsz := key_size hi hs
    have hw:0<i→wrap64 ((i:Int) - 1)=((i - 1:Nat):Int):=fun h=>by rw [w64 (by omega) (by omega)]; omega
    have st:∀ k,spec_l3Keys.l0 (k + 1) l (i:Int)=(spec_TextOk.f k (l.getD i ByteArray.empty)).bind fun t=>(if t=true then (if 0<i then (if Op.bytesLess (l.getD (i - 1) ByteArray.empty).toList (l.getD i ByteArray.empty).toList=true then spec_l3Keys.l0 k l ((i + 1:Nat):Int) else some false) else spec_l3Keys.l0 k l ((i + 1:Nat):Int)) else some false):=fun k=>by
      simp only [spec_l3Keys.l0]
      rw [if_pos (by omega),if_pos (by omega),rdB,wsucc (by omega)]
      congr 1
      funext t
      by_cases h0:0<i
      · rw [hw h0,rdB,if_pos h0,if_pos (show (i:Int) > 0 by omega),if_pos (show (0:Int)≤((i - 1:Nat):Int) by omega),if_pos (show ((i - 1:Nat):Int)<(l.length:Int) by omega)]
      · rw [if_neg h0,if_neg (show ¬ (i:Int) > 0 by omega)]
    have hT:Ev (fun k=>spec_TextOk.f k (l.getD i ByteArray.empty)) (textOk (l.getD i ByteArray.empty)):=Ev.past (fun k hk=>spec_textOk _ (by omega) k hk)
    unfold keyB
    cases ht:textOk (l.getD i ByteArray.empty) with
    | false =>
      refine ⟨fun h=>by simp at h,fun _=>Ev.step st (Ev.bind hT ?_)⟩
      rw [ht]
      exact Ev.now _
    | true =>
      rw [ht] at hT
      by_cases h0:0<i
      · have hd : decide (i = 0) = false := decide_eq_false (by omega)
        rw [hd,Bool.false_or,Bool.true_and]
        refine ⟨fun h r hr=>Ev.step st (Ev.bind hT ?_),fun h=>Ev.step st (Ev.bind hT ?_)⟩
        · simp only [if_true, h0, h]
          exact hr
        · simp only [if_true, h0, h]
          exact Ev.now _
      · have hd : decide (i = 0) = true := decide_eq_true (by omega)
        rw [hd,Bool.true_or,Bool.true_and]
        refine ⟨fun h r hr=>Ev.step st (Ev.bind hT ?_),fun h=>by cases h⟩
        simp only [if_true,h0,if_false]
        exact hr
theorem shape_ev (a:S32) (ht:totK a≤1048576):Ev (fun k=>impl_shapeOk.f k a.f0 a.f1 a.f2 a.f3 a.f4) (nodeB a):=by
  have hq:=totK_eq a
  unfold nodeB impl_shapeOk.f
  by_cases h3:a.f0=3
  · simp only [h3, if_true]
    have hT:Ev (fun k=>impl_TextOk.f k a.f2) (textOk a.f2):=Ev.past (fun k hk=>impl_textOk _ (by omega) k hk)
    refine Ev.bind hT ?_
    cases textOk a.f2 with
    | true=>exact Ev.now _
    | false=>exact Ev.now _
  · simp only [h3, if_false]
    by_cases h5:a.f0=5
    · simp only [h5, if_true]
      by_cases hl:a.f3.length=a.f4.length
      · simp only [hl, if_true, decide_true, Bool.true_and]
        exact impl_keys_ev _ _ (by omega)
      · simp only [hl, if_false, decide_false, Bool.false_and]
        exact Ev.now _
    · simp only [h5, if_false]
      exact Ev.now _
theorem find_loop (xs:List S32) (hl:xs.length≤1048576) (ih:∀ x ∈ xs,Ev (fun k=>impl_allShapes.f k x.f0 x.f1 x.f2 x.f3 x.f4) (rightK x)) :
    ∀ d i,i + d=xs.length→∃ r:Int,Ev (fun k=>impl_Node_175.l0 k xs (xs.length:Int) (i:Int)) r∧decide (r ≥ 0)=!(xs.drop i).all rightK:=by
  intro d
  induction d with
  | zero =>
    intro i hi
    obtain rfl:i=xs.length:=by omega
    refine ⟨-1,Ev.step (f:=fun _=>some (-1)) (fun k=>by simp only [impl_Node_175.l0]; rw [if_neg (by omega)]) (Ev.now _),?_⟩
    rw [List.drop_of_length_le (Nat.le_refl _)]
    rfl
  | succ d ihd =>
    intro i hi
    have hx:i<xs.length:=by omega
    have st:∀ k,impl_Node_175.l0 (k + 1) xs (xs.length:Int) (i:Int)=(impl_allShapes_1.f k xs[i].f0 xs[i].f1 xs[i].f2 xs[i].f3 xs[i].f4).bind fun t=>(if t=true then (some (i:Int)) else (impl_Node_175.l0 k xs (xs.length:Int) ((i + 1:Nat):Int))):=fun k=>by
      simp only [impl_Node_175.l0]
      rw [if_pos (by omega),if_pos (by omega),if_pos (by omega),rdK _ _ hx,wsucc (by omega)]
    have hc:Ev (fun k=>impl_allShapes_1.f k xs[i].f0 xs[i].f1 xs[i].f2 xs[i].f3 xs[i].f4) (!rightK xs[i]) :=
      Ev.step (f:=fun k=>(impl_allShapes.f k xs[i].f0 xs[i].f1 xs[i].f2 xs[i].f3 xs[i].f4).bind fun t775=>(some (!t775))) (fun k=>by simp only [impl_allShapes_1.f]) (Ev.bind (ih _ (List.getElem_mem hx)) (Ev.now _))
    rw [List.drop_eq_getElem_cons hx,List.all_cons]
    cases hr:rightK xs[i] with
    | false =>
      refine ⟨(i:Int),Ev.step st (Ev.bind hc ?_),?_⟩
      · rw [hr]; exact Ev.now _
      · rw [Bool.false_and]; exact decide_eq_true (by omega)
    | true =>
      obtain ⟨r,h1,h2⟩:=ihd (i + 1) (by omega)
      refine ⟨r,Ev.step st (Ev.bind hc ?_),?_⟩
      · rw [hr]; exact h1
      · rw [Bool.true_and]; exact h2
theorem impl_right_ev (a:S32):totK a≤1048576→Ev (fun k=>impl_allShapes.f k a.f0 a.f1 a.f2 a.f3 a.f4) (rightK a):=by
  refine tree_ind (P:=fun a=>totK a≤1048576→Ev (fun k=>impl_allShapes.f k a.f0 a.f1 a.f2 a.f3 a.f4) (rightK a)) (fun a ih ht=>?_) a
  have hl:a.f4.length≤1048576:=by have:=totK_eq a; omega
  obtain ⟨r,h1,h2⟩:=find_loop a.f4 hl (fun x hx=>ih x hx (by have:=totK_kid hx; omega)) a.f4.length 0 (by omega)
  rw [List.drop_zero] at h2
  have hI:Ev (fun k=>impl_Node_175.f k a.f4) r:=Ev.step (f:=fun k=>impl_Node_175.l0 k a.f4 (a.f4.length:Int) 0) (fun k=>by simp only [impl_Node_175.f]) h1
  have hC:Ev (fun k=>impl_Node_145.f k a.f4) (!a.f4.all rightK):=by
    rw [← h2]
    exact Ev.step (f:=fun k=>(impl_Node_175.f k a.f4).bind fun t773=>(some (decide (t773 ≥ 0)))) (fun k=>by simp only [impl_Node_145.f]) (Ev.bind hI (Ev.now _))
  rw [rightK_eq]
  refine Ev.step (f:=fun k=>(impl_shapeOk.f k a.f0 a.f1 a.f2 a.f3 a.f4).bind fun t771=>(if t771=true then ((impl_Node_145.f k a.f4).bind fun t772=>(some (!t772))) else (some false))) (fun k=>by simp only [impl_allShapes.f]) (Ev.bind (shape_ev a ht) ?_)
  cases nodeB a with
  | false=>exact Ev.now _
  | true =>
    simp only [if_true]
    refine Ev.bind hC ?_
    rw [Bool.not_not,Bool.true_and]
    exact Ev.now _
theorem shB_kids {k n:Int} {e:Bool} {n3 n4:Nat} (h4:¬ k=4) (h5:¬ k=5) (h:¬ n4=0 ∨ ¬ n3=0):shB k n e n3 n4=false:=by
  have z:(decide (n3=0) && decide (n4=0))=false:=by
    rcases h with h | h
    · rw [decide_eq_false h,Bool.and_false]
    · rw [decide_eq_false h,Bool.false_and]
  unfold shB
  rw [if_neg h4,if_neg h5]
  simp only [Bool.and_assoc,z,Bool.and_false,ite_self]
theorem nodeB_kids {a:S32} (h4:¬ a.f0=4) (h5:¬ a.f0=5) (h:¬ a.f4.length=0 ∨ ¬ a.f3.length=0):nodeB a=false:=by
  unfold nodeB
  rw [if_neg h5,shB_kids h4 h5 h,shB_kids (by decide) (by decide) h,Bool.and_false,ite_self]
theorem spec_leaf_ev (a:S32) (ht:totK a≤1048576) (h4:¬ a.f0=4) (h5:¬ a.f0=5):Ev (fun k=>spec_l3Leaf.f k a.f0 a.f1 a.f2 a.f3 a.f4) (rightK a):=by
  have hq:=totK_eq a
  unfold spec_l3Leaf.f
  rw [rightK_eq]
  by_cases c4:(a.f4.length:Int) > 0
  · rw [show (fun k => if (a.f4.length : Int) > 0 then spec_l3Leaf.j0 k true a.f0 a.f1 a.f2 a.f3 a.f4 else spec_l3Leaf.j0 k (decide ((a.f3.length : Int) > 0)) a.f0 a.f1 a.f2 a.f3 a.f4) = fun k => spec_l3Leaf.j0 k true a.f0 a.f1 a.f2 a.f3 a.f4 from funext fun k => if_pos c4]
    have hn:nodeB a=false:=nodeB_kids h4 h5 (.inl (by omega))
    rw [hn,Bool.false_and]
    exact Ev.step (f:=fun _=>some false) (fun k=>by simp only [spec_l3Leaf.j0,if_true]) (Ev.now _)
  · rw [show (fun k => if (a.f4.length : Int) > 0 then spec_l3Leaf.j0 k true a.f0 a.f1 a.f2 a.f3 a.f4 else spec_l3Leaf.j0 k (decide ((a.f3.length : Int) > 0)) a.f0 a.f1 a.f2 a.f3 a.f4) = fun k => spec_l3Leaf.j0 k (decide ((a.f3.length : Int) > 0)) a.f0 a.f1 a.f2 a.f3 a.f4 from funext fun k => if_neg c4]
    have e4:a.f4=[]:=List.eq_nil_of_length_eq_zero (by omega)
    rw [e4,List.all_nil,Bool.and_true]
    by_cases c3:(a.f3.length:Int) > 0
    · have hn : nodeB a = false := nodeB_kids h4 h5 (.inr (by omega))
      rw [hn,decide_eq_true c3]
      exact Ev.step (f:=fun _=>some false) (fun k=>by simp only [spec_l3Leaf.j0,if_true]) (Ev.now _)
    · have z3 : a.f3.length = 0 := by omega
      rw [decide_eq_false c3]
      unfold nodeB shB
      rw [e4]
      simp only [z3,List.length_nil,decide_true,Bool.and_true]
      by_cases h0:a.f0=0
      · refine Ev.step (f := fun _ => some (decide (a.f1 = 0) && (a.f2.toList == []))) (fun k => ?_) (by simp [h0]; exact Ev.now _)
        simp only [spec_l3Leaf.j0,h0]
        by_cases c:a.f1=0 <;> simp [c]
      · by_cases h1 : a.f0 = 1
        · refine Ev.step (f := fun _ => some (decide (0 ≤ a.f1) && decide (a.f1 ≤ 1) && (a.f2.toList == []))) (fun k => ?_) (by simp [h1]; exact Ev.now _)
          simp only [spec_l3Leaf.j0,h1,l1In_eq,Option.bind_some,inB]
          by_cases c:0≤a.f1 <;> by_cases c':a.f1≤1 <;> simp [c,c']
        · by_cases h2 : a.f0 = 2
          · refine Ev.step (f := fun _ => some (decide (-1000000000000 ≤ a.f1) && decide (a.f1 ≤ 1000000000000) && (a.f2.toList == []))) (fun k => ?_) (by simp [h2]; exact Ev.now _)
            simp only [spec_l3Leaf.j0,h2,l1In_eq,Option.bind_some,inB]
            by_cases c : -1000000000000≤a.f1 <;> by_cases c':a.f1≤1000000000000 <;> simp [c,c']
          · by_cases h3 : a.f0 = 3
            · have hT : Ev (fun k => spec_TextOk.f k a.f2) (textOk a.f2) := Ev.past (fun k hk => spec_textOk _ (by omega) k hk)
              by_cases c:a.f1=0
              · refine Ev.step (f := fun k => (spec_TextOk.f k a.f2).bind fun t749 => (some t749)) (fun k => ?_) ?_
                · simp only [spec_l3Leaf.j0, h3]
                  simp [c]
                · simp only [h3, c, if_true, decide_true, Bool.and_true]
                  refine Ev.bind hT ?_
                  simp
                  exact Ev.now _
              · refine Ev.step (f := fun _ => some false) (fun k => ?_) ?_
                · simp only [spec_l3Leaf.j0, h3]
                  simp [c]
                · simp [h3, c]
                  exact Ev.now _
            · refine Ev.step (f := fun _ => some false) (fun k => ?_) (by simp [h0, h1, h2, h3, h4, h5]; exact Ev.now _)
              simp only [spec_l3Leaf.j0]
              simp [h0,h1,h2,h3]
theorem spec_right_ev (a:S32):totK a≤1048576→Ev (fun k=>spec_l3Right.f k a.f0 a.f1 a.f2 a.f3 a.f4) (rightK a):=by
  refine tree_ind (P:=fun a=>totK a≤1048576→Ev (fun k=>spec_l3Right.f k a.f0 a.f1 a.f2 a.f3 a.f4) (rightK a)) (fun a ih ht=>?_) a
  have hq:=totK_eq a
  have hl:a.f4.length≤1048576:=by omega
  have kids:Ev (fun k=>spec_l3Right.l0 k 0 a.f0 a.f1 a.f2 a.f3 a.f4) (a.f4.all rightK):=by
    have e := ev_all (n := a.f4.length) (l0 := fun k i => spec_l3Right.l0 k i a.f0 a.f1 a.f2 a.f3 a.f4) (P := fun i => rightK (a.f4.getD i z32)) (e := true)
      (Ev.step (f:=fun _=>some true) (fun k=>by simp only [spec_l3Right.l0]; rw [if_neg (by omega)]) (Ev.now _))
      (fun i hi=>by
        have eg:a.f4.getD i z32=a.f4[i]:=by rw [List.getD_eq_getElem?_getD,List.getElem?_eq_getElem hi]; rfl
        rw [eg]
        have h2:=totK_kid (List.getElem_mem hi)
        have hi2:=ih _ (List.getElem_mem hi) (by omega)
        have st:∀ k,spec_l3Right.l0 (k + 1) (i:Int) a.f0 a.f1 a.f2 a.f3 a.f4=(spec_l3Right.f k a.f4[i].f0 a.f4[i].f1 a.f4[i].f2 a.f4[i].f3 a.f4[i].f4).bind fun t=>(if t=true then (spec_l3Right.l0 k ((i + 1:Nat):Int) a.f0 a.f1 a.f2 a.f3 a.f4) else (some false)):=fun k=>by
          simp only [spec_l3Right.l0]
          rw [if_pos (by omega),if_pos (by omega),rdK _ _ hi,wsucc (by omega)]
        refine ⟨fun h r hr=>Ev.step st (Ev.bind hi2 ?_),fun h=>Ev.step st (Ev.bind hi2 ?_)⟩
        · rw [h]; exact hr
        · rw [h]; exact Ev.now _)
    rw [all_range_getD a.f4 z32 rightK,Bool.and_true] at e
    exact e
  have j1t:Ev (fun k=>spec_l3Right.j1 k true a.f0 a.f1 a.f2 a.f3 a.f4) false:=Ev.step (f:=fun _=>some false) (fun k=>by simp only [spec_l3Right.j1,if_true]) (Ev.now _)
  have j1f:Ev (fun k=>spec_l3Right.j1 k false a.f0 a.f1 a.f2 a.f3 a.f4) (a.f4.all rightK):=Ev.step (f:=fun k=>spec_l3Right.l0 k 0 a.f0 a.f1 a.f2 a.f3 a.f4) (fun k=>by simp only [spec_l3Right.j1]; rw [if_neg (by decide)]) kids
  by_cases h4:a.f0=4
  · refine Ev.step (f := fun k => spec_l3Right.j0 k false a.f0 a.f1 a.f2 a.f3 a.f4) (fun k => by simp only [spec_l3Right.f]; rw [if_pos h4]) ?_
    rw [rightK_eq]
    have hn:nodeB a=(decide (a.f1=0) && (a.f2.toList == []) && decide (a.f3.length=0)):=by unfold nodeB shB; simp [h4]
    rw [hn]
    by_cases c1:a.f1=0
    · by_cases c2 : a.f2.toList = []
      · by_cases c3 : (a.f3.length : Int) > 0
        · refine Ev.step (f := fun k => spec_l3Right.j1 k true a.f0 a.f1 a.f2 a.f3 a.f4) (fun k => by simp only [spec_l3Right.j0]; rw [if_neg (by decide), if_pos c1, if_pos c2, if_pos h4, if_pos c3]) ?_
          have z3:decide (a.f3.length=0)=false:=decide_eq_false (by omega)
          rw [z3,Bool.and_false,Bool.false_and]
          exact j1t
        · refine Ev.step (f := fun k => spec_l3Right.j1 k false a.f0 a.f1 a.f2 a.f3 a.f4) (fun k => by simp only [spec_l3Right.j0]; rw [if_neg (by decide), if_pos c1, if_pos c2, if_pos h4, if_neg c3, if_neg (by omega)]) ?_
          have z3:decide (a.f3.length=0)=true:=decide_eq_true (by omega)
          have z2:(a.f2.toList == [])=true:=by simpa using c2
          rw [z3,z2,decide_eq_true c1]
          exact j1f
      · refine Ev.step (f := fun k => spec_l3Right.j1 k true a.f0 a.f1 a.f2 a.f3 a.f4) (fun k => by simp only [spec_l3Right.j0]; rw [if_neg (by decide), if_pos c1, if_neg c2]) ?_
        have z2:(a.f2.toList == [])=false:=by simpa using c2
        rw [z2,Bool.and_false,Bool.false_and,Bool.false_and]
        exact j1t
    · refine Ev.step (f := fun k => spec_l3Right.j1 k true a.f0 a.f1 a.f2 a.f3 a.f4) (fun k => by simp only [spec_l3Right.j0]; rw [if_neg (by decide), if_neg c1]) ?_
      rw [decide_eq_false c1]
      exact j1t
  · by_cases h5 : a.f0 = 5
    · refine Ev.step (f := fun k => spec_l3Right.j0 k false a.f0 a.f1 a.f2 a.f3 a.f4) (fun k => by simp only [spec_l3Right.f]; rw [if_neg h4]; simp [h5]) ?_
      rw [rightK_eq]
      have hn:nodeB a=(decide (a.f3.length=a.f4.length) && (keysOk a.f3 && (decide (a.f1=0) && (a.f2.toList == [])))):=by unfold nodeB; simp [h5]
      rw [hn]
      by_cases c1:a.f1=0
      · by_cases c2 : a.f2.toList = []
        · have z2 : (a.f2.toList == []) = true := by simpa using c2
          by_cases c3:a.f3.length=a.f4.length
          · refine Ev.step (f := fun k => (spec_l3Keys.f k a.f3).bind fun t757 => (spec_l3Right.j1 k (!t757) a.f0 a.f1 a.f2 a.f3 a.f4)) (fun k => by simp only [spec_l3Right.j0]; rw [if_neg (by decide), if_pos c1, if_pos c2, if_neg h4, if_pos h5, if_pos (by omega)]) ?_
            refine Ev.bind (spec_keys_ev a.f3 (by omega) (by omega)) ?_
            rw [decide_eq_true c3,z2,decide_eq_true c1]
            cases keysOk a.f3 with
            | true=>exact j1f
            | false=>exact j1t
          · refine Ev.step (f := fun k => spec_l3Right.j1 k true a.f0 a.f1 a.f2 a.f3 a.f4) (fun k => by simp only [spec_l3Right.j0]; rw [if_neg (by decide), if_pos c1, if_pos c2, if_neg h4, if_pos h5, if_neg (by omega)]) ?_
            rw [decide_eq_false c3]
            exact j1t
        · refine Ev.step (f := fun k => spec_l3Right.j1 k true a.f0 a.f1 a.f2 a.f3 a.f4) (fun k => by simp only [spec_l3Right.j0]; rw [if_neg (by decide), if_pos c1, if_neg c2]) ?_
          have z2:(a.f2.toList == [])=false:=by simpa using c2
          rw [z2,Bool.and_false,Bool.and_false,Bool.and_false,Bool.false_and]
          exact j1t
      · refine Ev.step (f := fun k => spec_l3Right.j1 k true a.f0 a.f1 a.f2 a.f3 a.f4) (fun k => by simp only [spec_l3Right.j0]; rw [if_neg (by decide), if_neg c1]) ?_
        rw [decide_eq_false c1,Bool.false_and,Bool.and_false,Bool.and_false,Bool.false_and]
        exact j1t
    · refine Ev.step (f := fun k => spec_l3Right.j0 k true a.f0 a.f1 a.f2 a.f3 a.f4) (fun k => by simp only [spec_l3Right.f]; rw [if_neg h4, show (a.f0 != 5) = true from by simpa using h5]) ?_
      refine Ev.step (f:=fun k=>(spec_l3Leaf.f k a.f0 a.f1 a.f2 a.f3 a.f4).bind fun t755=>(some t755)) (fun k=>by simp only [spec_l3Right.j0,if_true]) ?_
      exact Ev.bind (spec_leaf_ev a ht h4 h5) (Ev.now _)
theorem spec_treeOk_ev (a:S32) (ht:totK a≤1048576):Ev (fun k=>spec_TreeOk.f k a.f0 a.f1 a.f2 a.f3 a.f4) (treeOkK a):=by
  unfold spec_TreeOk.f treeOkK
  refine Ev.bind (spec_deep_ev a ht) ?_
  by_cases c1:deepK a≤8
  · simp only [show ((deepK a : Nat) : Int) ≤ 8 from by omega, if_true, c1, decide_true, Bool.true_and]
    refine Ev.bind (spec_size_ev a ht) ?_
    by_cases c2:sizeK a≤200
    · simp only [show ((sizeK a : Nat) : Int) ≤ 200 from by omega, if_true, c2, decide_true, Bool.true_and]
      exact Ev.bind (spec_right_ev a ht) (Ev.now _)
    · simp only [show ¬ ((sizeK a : Nat) : Int) ≤ 200 from by omega, if_false, c2, decide_false, Bool.false_and]
      exact Ev.now _
  · simp only [show ¬ ((deepK a : Nat) : Int) ≤ 8 from by omega, if_false, c1, decide_false, Bool.false_and]
    exact Ev.now _
theorem impl_treeOk_ev (a:S32) (ht:totK a≤1048576):Ev (fun k=>impl_TreeOk.f k a.f0 a.f1 a.f2 a.f3 a.f4) (treeOkK a):=by
  unfold impl_TreeOk.f treeOkK
  refine Ev.bind (impl_size_ev 9 a (by omega) ht) ?_
  by_cases c:deepK a≤9
  · rw [szd_le 9 a c]
    by_cases c2:sizeK a≤200
    · by_cases c1 : deepK a ≤ 8
      · simp only [show ((min (sizeK a) 201 : Nat) : Int) ≤ 200 from by omega, show ((deepK a : Nat) : Int) ≤ 8 from by omega, if_true, c1, c2, decide_true, Bool.true_and]
        exact Ev.bind (impl_right_ev a ht) (Ev.now _)
      · simp only [show ((min (sizeK a) 201 : Nat) : Int) ≤ 200 from by omega, show ¬ ((deepK a : Nat) : Int) ≤ 8 from by omega, if_true, if_false, c1, decide_false, Bool.false_and]
        exact Ev.now _
    · simp only [show ¬ ((min (sizeK a) 201 : Nat) : Int) ≤ 200 from by omega, if_false, c2, decide_false, Bool.and_false, Bool.false_and]
      exact Ev.now _
  · have hg := szd_gt 9 a (by omega)
    simp only [show ¬ (((szd 9 a).2:Nat):Int)≤8 from by omega,if_false,show ¬ deepK a≤8 from by omega,decide_false,Bool.false_and]
    by_cases c3:(((szd 9 a).1:Nat):Int)≤200
    · simp only [c3,if_true]; exact Ev.now _
    · simp only [c3,if_false]; exact Ev.now _
theorem ev_iter {β σ : Type} {n : Nat} {l0 : Nat → σ → Int → Option β} (S : Nat → σ) {r : β} (hend : Ev (fun k => l0 k (S n) (n : Int)) r)
    (hstep:∀ (i:Nat),i<n→∀ r,Ev (fun k=>l0 k (S (i + 1)) ((i + 1:Nat):Int)) r→Ev (fun k=>l0 k (S i) (i:Int)) r):Ev (fun k=>l0 k (S 0) 0) r:=by
  have key:∀ d i,i + d=n→Ev (fun k=>l0 k (S i) (i:Int)) r:=by
    intro d
    induction d with
    | zero=>intro i hi; have e:i=n:=(by omega); rw [e]; exact hend
    | succ d ih=>intro i hi; exact hstep i (by omega) r (ih (i + 1) (by omega))
  exact key n 0 (by omega)
def bl (s:ByteArray):List UInt8:=s.data.toList
theorem bl_mk (l:List UInt8):bl ⟨l.toArray⟩=l:=by simp [bl]
theorem mk_bl (s:ByteArray):(⟨(bl s).toArray⟩:ByteArray)=s:=by simp [bl]
theorem bl_append (a b:ByteArray):bl (a ++ b)=bl a ++ bl b:=by
  have h:=ba_append (bl a) (bl b)
  rw [mk_bl,mk_bl] at h
  rw [h,bl_mk]
theorem bl_size (s:ByteArray):s.size=(bl s).length:=by
  have h:=ba_size (bl s)
  rw [mk_bl] at h
  exact h
theorem bl_inj {a b:ByteArray} (h:bl a=bl b):a=b:=by rw [← mk_bl a,← mk_bl b,h]
theorem join_snoc (xs:List (List UInt8)) (y sep:List UInt8):Lib.join (xs ++ [y]) sep=if xs=[] then y else Lib.join xs sep ++ (sep ++ y):=by
  cases xs with
  | nil=>simp [Lib.join_one]
  | cons x r =>
    rw [List.cons_append,Lib.join_cons,Lib.join_cons,if_neg (by simp)]
    simp [Lib.joinTail,List.append_assoc]
theorem quote_len (s:ByteArray):(bl (quote s)).length≤802:=by
  unfold quote
  by_cases h:textOk s=true
  · rw [if_pos h]
    unfold textOk at h
    simp only [Bool.and_eq_true,decide_eq_true_eq] at h
    have h2:∀ l:List Int,(escs l).length≤2*l.length:=by
      intro l
      induction l with
      | nil=>simp [escs]
      | cons c r ih =>
        rw [escs_cons,List.length_append,List.length_cons]
        have:(esc c).length≤2:=by unfold esc; split <;> simp
        omega
    have h3:=h2 (bytesOf s)
    rw [bytesOf_length] at h3
    rw [← bl_size]
    unfold strOfNums quoteL
    simp [ByteArray.size]
    omega
  · rw [if_neg h]; simp [bl]
theorem digits_len {n:Int} (h0 : -9223372036854775808≤n) (h1:n≤9223372036854775807):(bl (digits n)).length≤20:=by
  unfold digits
  rw [bl_mk,List.length_append]
  have:=natDigs_len20 (n:=n.natAbs) (by omega)
  split <;> simp <;> omega
def preL (a:S32) (i:Nat):List UInt8:=if a.f0=5 then bl (quote (a.f3.getD i ByteArray.empty)) ++ [58] else []
def partsL (f:S32→List UInt8) (a:S32):List (List UInt8):=(List.range a.f4.length).map fun i=>preL a i ++ f (a.f4.getD i z32)
def brF : Nat → S32 → List UInt8
  | 0,_=>[]
  | n + 1, a => if a.f0 = 0 then [110, 117, 108, 108] else if a.f0 = 1 then (if a.f1 = 1 then [116, 114, 117, 101] else [102, 97, 108, 115, 101]) else if a.f0 = 2 then bl (digits a.f1) else if a.f0 = 3 then bl (quote a.f2)
    else (if a.f0=5 then [123] else [91]) ++ (Lib.join (partsL (brF n) a) [44] ++ (if a.f0=5 then [125] else [93]))
theorem preL_len (a:S32) (i:Nat):(preL a i).length≤803:=by
  unfold preL
  split
  · have:=quote_len (a.f3.getD i ByteArray.empty); rw [List.length_append,List.length_singleton]; omega
  · simp
theorem partsL_length (f:S32→List UInt8) (a:S32):(partsL f a).length=a.f4.length:=by simp [partsL]
theorem partsL_take (f:S32→List UInt8) (a:S32) (i:Nat) (hi:i<a.f4.length):(partsL f a).take (i + 1)=(partsL f a).take i ++ [preL a i ++ f a.f4[i]]:=by
  rw [List.take_succ_eq_append_getElem (by rw [partsL_length]; exact hi)]
  congr 2
  simp only [partsL,List.getElem_map,List.getElem_range]
  rw [List.getD_eq_getElem?_getD,List.getElem?_eq_getElem hi]
  rfl
theorem mapsK_of_right {a:S32} (h:rightK a=true):(a.f0=0 ∨ a.f0=1 ∨ a.f0=2 ∨ a.f0=3 ∨ a.f0=4 ∨ a.f0=5)∧(a.f0=5→a.f3.length=a.f4.length)∧(a.f0 ≠ 4→a.f0 ≠ 5→a.f4=[]) ∧ -9223372036854775808≤a.f1∧a.f1≤9223372036854775807∧∀ x ∈ a.f4,rightK x=true:=by
  rw [rightK_eq,Bool.and_eq_true,List.all_eq_true] at h
  obtain ⟨hn,hk⟩:=h
  unfold nodeB shB at hn
  refine ⟨?_,fun h5=>?_,fun h4 h5=>?_,?_⟩
  · by_cases h0 : a.f0 = 0
    · exact .inl h0
    · by_cases h1 : a.f0 = 1
      · exact .inr (.inl h1)
      · by_cases h2 : a.f0 = 2
        · exact .inr (.inr (.inl h2))
        · by_cases h3 : a.f0 = 3
          · exact .inr (.inr (.inr (.inl h3)))
          · by_cases h4 : a.f0 = 4
            · exact .inr (.inr (.inr (.inr (.inl h4))))
            · by_cases h5 : a.f0 = 5
              · exact .inr (.inr (.inr (.inr (.inr h5))))
              · simp [h0,h1,h2,h3,h4,h5] at hn
  · rw [h5] at hn
    simp at hn
    exact hn.1
  · by_cases c : a.f4.length = 0
    · exact List.eq_nil_of_length_eq_zero c
    · exfalso
      have:=nodeB_kids h4 h5 (.inl c)
      unfold nodeB shB at this
      rw [this] at hn
      cases hn
  · have hb : -9223372036854775808≤a.f1∧a.f1≤9223372036854775807:=by
      by_cases h3:a.f0=3
      · simp [h3] at hn; omega
      · by_cases h5 : a.f0 = 5
        · simp [h5] at hn; omega
        · by_cases h0 : a.f0 = 0
          · simp [h0] at hn; omega
          · by_cases h1 : a.f0 = 1
            · simp [h1] at hn; omega
            · by_cases h2 : a.f0 = 2
              · simp [h2] at hn; omega
              · by_cases h4 : a.f0 = 4
                · simp [h4] at hn; omega
                · simp [h0,h1,h2,h3,h4,h5] at hn
    exact ⟨hb.1,hb.2,hk⟩
theorem brF_len : ∀ (n : Nat) (a : S32), rightK a = true → (brF n a).length ≤ 2000 * totK a + 850
  | 0,a,_=>by simp [brF]
  | n + 1,a,h=>by
    obtain ⟨_,_,_,b0,b1,hk⟩:=mapsK_of_right h
    have kids:(Lib.join (partsL (brF n) a) [44]).length≤2000*totK a:=by
      have key:∀ m,m≤a.f4.length→(Lib.join ((partsL (brF n) a).take m) [44]).length≤2000*((a.f4.take m).map totK).sum + 1660*m:=by
        intro m
        induction m with
        | zero=>intro _; simp [Lib.join_nil]
        | succ m ih =>
          intro hm
          have h1:=ih (by omega)
          have h2:=brF_len n a.f4[m] (hk _ (List.getElem_mem (by omega)))
          have h3:=preL_len a m
          rw [partsL_take _ _ _ (by omega),join_snoc,List.take_succ_eq_append_getElem (by omega)]
          rw [List.map_append,List.sum_append]
          simp only [List.map_cons,List.map_nil,List.sum_cons,List.sum_nil]
          split
          · simp only [List.length_append]; omega
          · simp only [List.length_append,List.length_cons,List.length_nil]; omega
      have:=key a.f4.length (Nat.le_refl _)
      rw [List.take_of_length_le (by rw [partsL_length]; exact Nat.le_refl _),List.take_of_length_le (Nat.le_refl _)] at this
      have:=totK_eq a
      omega
    have h1:=quote_len a.f2
    have h2:=digits_len b0 b1
    simp only [brF]
    repeat' split
    all_goals first | (simp only [List.length_append,List.length_cons,List.length_nil]; omega) | omega
theorem q_spec (s:ByteArray) (hs:s.size≤1048576):Ev (fun k=>spec_Quote.f k s) (quote s):=Ev.past (fun k hk=>spec_quote s hs k hk)
theorem q_impl (s:ByteArray) (hs:s.size≤1048576):Ev (fun k=>impl_Quote.f k s) (quote s):=Ev.past (fun k hk=>impl_quote s hs k hk)
theorem d_spec {n:Int} (h0 : -9223372036854775808≤n) (h1:n≤9223372036854775807):Ev (fun k=>spec_Digits.f k n) (digits n):=Ev.past (fun k hk=>spec_digits n h0 h1 k hk)
theorem d_impl {n:Int} (h0 : -9223372036854775808≤n) (h1:n≤9223372036854775807):Ev (fun k=>impl_Digits.f k n) (digits n):=Ev.past (fun k hk=>impl_digits n h0 h1 k hk)
theorem sum_take_le (l:List Nat):∀ m,(l.take m).sum≤l.sum:=by
  induction l with
  | nil=>intro m; simp
  | cons x r ih =>
    intro m
    cases m with
    | zero=>simp
    | succ m=>have:=ih m; simp only [List.take_succ_cons,List.sum_cons]; omega
theorem part_len (n:Nat) (a:S32) (h:rightK a=true) (ht:totK a≤1048576) (m:Nat) (hm:m≤a.f4.length):(Lib.join ((partsL (brF n) a).take m) [44]).length≤2097152000:=by
  obtain ⟨_,_,_,_,_,hk⟩:=mapsK_of_right h
  have key:∀ m,m≤a.f4.length→(Lib.join ((partsL (brF n) a).take m) [44]).length≤2000*((a.f4.map totK).take m).sum + 1660*m:=by
    intro m
    induction m with
    | zero=>intro _; simp [Lib.join_nil]
    | succ m ih =>
      intro hm
      have h1:=ih (by omega)
      have h2:=brF_len n a.f4[m] (hk _ (List.getElem_mem (by omega)))
      have h3:=preL_len a m
      rw [partsL_take _ _ _ (by omega),join_snoc,List.take_succ_eq_append_getElem (by rw [List.length_map]; omega),List.sum_append,List.getElem_map]
      simp only [List.sum_cons,List.sum_nil]
      split
      · simp only [List.length_append]; omega
      · simp only [List.length_append,List.length_cons,List.length_nil]; omega
  have h1:=key m hm
  have h2:=sum_take_le (a.f4.map totK) m
  have:=totK_eq a
  omega
theorem join_f (xs:List (List UInt8)) (h1:xs.length≤1048576) (h2:(Lib.join xs [44]).length≤2097152000):strings_Join.f (xs.map fun l=>(⟨l.toArray⟩:ByteArray)) ⟨#[44]⟩=some ⟨(Lib.join xs [44]).toArray⟩:=by
  have e:((xs.map fun l=>(⟨l.toArray⟩:ByteArray)).map (·.data.toList))=xs:=by
    rw [List.map_map]
    conv=>rhs; rw [← List.map_id xs]
    exact List.map_congr_left (fun l _=>by simp)
  have e2:(⟨#[44]⟩:ByteArray).data.toList=[44]:=rfl
  unfold strings_Join.f
  rw [e,e2,if_pos (by rw [List.length_map]; omega),if_pos (by omega)]
theorem key_sz (a:S32) (ht:totK a≤1048576) (i:Nat) (hi:i<a.f3.length):(a.f3.getD i ByteArray.empty).size≤1048576:=key_size hi (by have:=totK_eq a; omega)
theorem impl_br_ev : ∀ (n : Nat) (a : S32), deepK a ≤ n → rightK a = true → totK a ≤ 1048576 → Ev (fun k => impl_braced.f k a.f0 a.f1 a.f2 a.f3 a.f4) ⟨(brF n a).toArray⟩
  | 0,a,hd,_,_=>by rw [deepK_eq] at hd; omega
  | n + 1,a,hd,hr,ht=>by
    obtain ⟨hkind,hmap,_,b0,b1,hk⟩:=mapsK_of_right hr
    have hq:=totK_eq a
    by_cases h0:a.f0=0
    · refine Ev.step (f := fun _ => some (⟨#[110, 117, 108, 108]⟩ : ByteArray)) (fun k => by simp only [impl_braced.f]; rw [if_pos h0]) ?_
      simp only [brF,h0,if_true]; exact Ev.now _
    by_cases h1:a.f0=1
    · by_cases h11 : a.f1 = 1
      · refine Ev.step (f := fun _ => some (⟨#[116, 114, 117, 101]⟩ : ByteArray)) (fun k => by simp only [impl_braced.f]; rw [if_neg h0, if_pos h1, if_pos h11]) ?_
        simp only [brF,h1,h11,if_true]; exact Ev.now _
      · refine Ev.step (f := fun _ => some (⟨#[102, 97, 108, 115, 101]⟩ : ByteArray)) (fun k => by simp only [impl_braced.f]; rw [if_neg h0, if_pos h1, if_neg h11]) ?_
        simp only [brF,h1,h11,if_true,if_false]; exact Ev.now _
    by_cases h2:a.f0=2
    · refine Ev.step (f := fun k => (impl_Digits.f k a.f1).bind fun t => (some t)) (fun k => by simp only [impl_braced.f]; rw [if_neg h0, if_neg h1, if_pos h2]) ?_
      simp only [brF,h2,if_true]
      refine Ev.bind (d_impl b0 b1) ?_
      rw [show (⟨((if (2:Int)=0 then [110,117,108,108] else if (2:Int)=1 then (if a.f1=1 then [116,114,117,101] else [102,97,108,115,101]) else bl (digits a.f1)):List UInt8).toArray⟩:ByteArray)=digits a.f1 from mk_bl _]
      exact Ev.now _
    by_cases h3:a.f0=3
    · refine Ev.step (f := fun k => (impl_Quote.f k a.f2).bind fun t => (some t)) (fun k => by simp only [impl_braced.f]; rw [if_neg h0, if_neg h1, if_neg h2, if_pos h3]) ?_
      refine Ev.bind (q_impl _ (by omega)) ?_
      rw [show brF (n + 1) a=bl (quote a.f2) from by simp only [brF]; rw [if_neg h0,if_neg h1,if_neg h2,if_pos h3],mk_bl]
      exact Ev.now _
    have hl:a.f4.length≤1048576:=by omega
    rw [show brF (n + 1) a=(if a.f0=5 then [123] else [91]) ++ (Lib.join (partsL (brF n) a) [44] ++ (if a.f0=5 then [125] else [93])) from by simp only [brF]; rw [if_neg h0,if_neg h1,if_neg h2,if_neg h3]]
    refine Ev.step (f:=fun k=>impl_braced.l0 k ([]:List ByteArray) a.f4 (a.f4.length:Int) 0 a.f0 a.f1 a.f2 a.f3 a.f4) (fun k=>by simp only [impl_braced.f]; rw [if_neg h0,if_neg h1,if_neg h2,if_neg h3]) ?_
    refine ev_iter (n:=a.f4.length) (l0:=fun k s i=>impl_braced.l0 k s a.f4 (a.f4.length:Int) i a.f0 a.f1 a.f2 a.f3 a.f4) (fun i=>((partsL (brF n) a).take i).map fun l=>(⟨l.toArray⟩:ByteArray)) ?_ (fun i hi r hrr=>?_)
    · have hj := part_len n a hr ht a.f4.length (Nat.le_refl _)
      rw [List.take_of_length_le (by rw [partsL_length]; exact Nat.le_refl _)] at hj ⊢
      have hjf:=join_f (partsL (brF n) a) (by rw [partsL_length]; exact hl) hj
      have es:(⟨(Lib.join (partsL (brF n) a) [44]).toArray⟩:ByteArray).size=(Lib.join (partsL (brF n) a) [44]).length:=ba_size _
      by_cases h5:a.f0=5
      · refine Ev.step (f := fun _ => some (((⟨#[123]⟩ : ByteArray) ++ ⟨(Lib.join (partsL (brF n) a) [44]).toArray⟩) ++ (⟨#[125]⟩ : ByteArray))) (fun k => ?_) ?_
        · simp only [impl_braced.l0]
          rw [if_neg (by omega),if_pos h5,hjf,Option.bind_some,if_pos (by omega),if_pos (by rw [ByteArray.size_append',es]; show 1 + _ + 1≤_; omega)]
        · rw [if_pos h5, if_pos h5]
          refine Ev.eq (fun _=>rfl) (bl_inj ?_)
          rw [bl_append,bl_append,bl_mk,bl_mk]
          rfl
      · refine Ev.step (f := fun _ => some (((⟨#[91]⟩ : ByteArray) ++ ⟨(Lib.join (partsL (brF n) a) [44]).toArray⟩) ++ (⟨#[93]⟩ : ByteArray))) (fun k => ?_) ?_
        · simp only [impl_braced.l0]
          rw [if_neg (by omega),if_neg h5,hjf,Option.bind_some,if_pos (by omega),if_pos (by rw [ByteArray.size_append',es]; show 1 + _ + 1≤_; omega)]
        · rw [if_neg h5, if_neg h5]
          refine Ev.eq (fun _=>rfl) (bl_inj ?_)
          rw [bl_append,bl_append,bl_mk,bl_mk]
          rfl
    · have hm := List.getElem_mem hi
      have hd2:=deepK_kid hm
      have ht2:=totK_kid hm
      have hs:(((partsL (brF n) a).take i).map fun l=>(⟨l.toArray⟩:ByteArray)).length<8796093022208:=by rw [List.length_map,List.length_take]; omega
      have hb:=brF_len n _ (hk _ hm)
      have eb:(⟨(brF n a.f4[i]).toArray⟩:ByteArray).size=(brF n a.f4[i]).length:=ba_size _
      rw [partsL_take _ _ _ hi,List.map_append] at hrr
      by_cases h5:a.f0=5
      · have hi3 : i < a.f3.length := by rw [hmap h5]; exact hi
        have hql:=quote_len (a.f3.getD i ByteArray.empty)
        rw [← bl_size] at hql
        refine Ev.step (f:=fun k=>(impl_braced.f k a.f4[i].f0 a.f4[i].f1 a.f4[i].f2 a.f4[i].f3 a.f4[i].f4).bind fun t1235=>((impl_Quote.f k (a.f3.getD i ByteArray.empty)).bind fun t1237=>(if t1237.size + 1≤9223372036854775807 then (if (t1237 ++ (⟨#[58]⟩:ByteArray)).size + t1235.size≤9223372036854775807 then (impl_braced.l0 k ((((partsL (brF n) a).take i).map fun l=>(⟨l.toArray⟩:ByteArray)) ++ [(t1237 ++ (⟨#[58]⟩:ByteArray)) ++ t1235]) a.f4 (a.f4.length:Int) ((i + 1:Nat):Int) a.f0 a.f1 a.f2 a.f3 a.f4) else none) else none))) (fun k=>?_) ?_
        · simp only [impl_braced.l0]
          rw [if_pos (by omega),if_pos (by omega),if_pos (by omega),rdK _ _ hi,wsucc (by omega)]
          congr 1
          funext t
          rw [if_pos h5,if_pos (by omega),rdB]
          congr 1
          funext t2
          rw [if_pos hs]
        · refine Ev.bind (impl_br_ev n _ (by omega) (hk _ hm) (by omega)) (Ev.bind (q_impl _ (key_sz a ht i hi3)) ?_)
          have c1:(quote (a.f3.getD i ByteArray.empty)).size + 1≤9223372036854775807:=by omega
          have c2:(quote (a.f3.getD i ByteArray.empty) ++ (⟨#[58]⟩:ByteArray)).size + (⟨(brF n a.f4[i]).toArray⟩:ByteArray).size≤9223372036854775807:=by
            rw [ByteArray.size_append',eb]
            show _ + 1 + _≤_
            omega
          simp only [c1,c2,if_true]
          have ep:(quote (a.f3.getD i ByteArray.empty) ++ (⟨#[58]⟩:ByteArray)) ++ (⟨(brF n a.f4[i]).toArray⟩:ByteArray)=⟨(preL a i ++ brF n a.f4[i]).toArray⟩:=by
            refine bl_inj ?_
            rw [bl_append,bl_append,bl_mk,bl_mk]
            unfold preL
            rw [if_pos h5]
            rfl
          rw [ep]
          exact hrr
      · refine Ev.step (f := fun k => (impl_braced.f k a.f4[i].f0 a.f4[i].f1 a.f4[i].f2 a.f4[i].f3 a.f4[i].f4).bind fun t1235 => (impl_braced.l0 k ((((partsL (brF n) a).take i).map fun l => (⟨l.toArray⟩ : ByteArray)) ++ [t1235]) a.f4 (a.f4.length : Int) ((i + 1 : Nat) : Int) a.f0 a.f1 a.f2 a.f3 a.f4)) (fun k => ?_) ?_
        · simp only [impl_braced.l0]
          rw [if_pos (by omega),if_pos (by omega),if_pos (by omega),rdK _ _ hi,wsucc (by omega)]
          congr 1
          funext t
          rw [if_neg h5,if_pos hs]
        · refine Ev.bind (impl_br_ev n _ (by omega) (hk _ hm) (by omega)) ?_
          have ep:preL a i ++ brF n a.f4[i]=brF n a.f4[i]:=by unfold preL; rw [if_neg h5]; rfl
          rw [ep] at hrr
          exact hrr
theorem spec_br_ev : ∀ (n : Nat) (a : S32), deepK a ≤ n → rightK a = true → totK a ≤ 1048576 → Ev (fun k => spec_l4Text.f k a.f0 a.f1 a.f2 a.f3 a.f4) ⟨(brF n a).toArray⟩
  | 0,a,hd,_,_=>by rw [deepK_eq] at hd; omega
  | n + 1,a,hd,hr,ht=>by
    obtain ⟨hkind,hmap,_,b0,b1,hk⟩:=mapsK_of_right hr
    have hq:=totK_eq a
    by_cases h0:a.f0=0
    · refine Ev.step (f := fun _ => some (⟨#[110, 117, 108, 108]⟩ : ByteArray)) (fun k => by simp only [spec_l4Text.f]; rw [if_pos h0]) ?_
      simp only [brF,h0,if_true]; exact Ev.now _
    by_cases h1:a.f0=1
    · by_cases h11 : a.f1 = 1
      · refine Ev.step (f := fun _ => some (⟨#[116, 114, 117, 101]⟩ : ByteArray)) (fun k => by simp only [spec_l4Text.f]; rw [if_neg h0, if_pos h1, if_pos h11]) ?_
        simp only [brF,h1,h11,if_true]; exact Ev.now _
      · refine Ev.step (f := fun _ => some (⟨#[102, 97, 108, 115, 101]⟩ : ByteArray)) (fun k => by simp only [spec_l4Text.f]; rw [if_neg h0, if_pos h1, if_neg h11]) ?_
        simp only [brF,h1,h11,if_true,if_false]; exact Ev.now _
    by_cases h2:a.f0=2
    · refine Ev.step (f := fun k => (spec_Digits.f k a.f1).bind fun t => (some t)) (fun k => by simp only [spec_l4Text.f]; rw [if_neg h0, if_neg h1, if_pos h2]) ?_
      refine Ev.bind (d_spec b0 b1) ?_
      rw [show brF (n + 1) a=bl (digits a.f1) from by simp only [brF]; rw [if_neg h0,if_neg h1,if_pos h2],mk_bl]
      exact Ev.now _
    by_cases h3:a.f0=3
    · refine Ev.step (f := fun k => (spec_Quote.f k a.f2).bind fun t => (some t)) (fun k => by simp only [spec_l4Text.f]; rw [if_neg h0, if_neg h1, if_neg h2, if_pos h3]) ?_
      refine Ev.bind (q_spec _ (by omega)) ?_
      rw [show brF (n + 1) a=bl (quote a.f2) from by simp only [brF]; rw [if_neg h0,if_neg h1,if_neg h2,if_pos h3],mk_bl]
      exact Ev.now _
    have hl:a.f4.length≤1048576:=by omega
    rw [show brF (n + 1) a=(if a.f0=5 then [123] else [91]) ++ (Lib.join (partsL (brF n) a) [44] ++ (if a.f0=5 then [125] else [93])) from by simp only [brF]; rw [if_neg h0,if_neg h1,if_neg h2,if_neg h3]]
    have loop:∀ o c:UInt8,Ev (fun k=>spec_l4Text.l0 k ⟨#[c]⟩ ⟨#[o]⟩ 0 a.f0 a.f1 a.f2 a.f3 a.f4) ⟨([o] ++ (Lib.join (partsL (brF n) a) [44] ++ [c])).toArray⟩:=by
      intro o c
      refine ev_iter (n:=a.f4.length) (l0:=fun k s i=>spec_l4Text.l0 k ⟨#[c]⟩ s i a.f0 a.f1 a.f2 a.f3 a.f4) (fun i=>(⟨([o] ++ Lib.join ((partsL (brF n) a).take i) [44]).toArray⟩:ByteArray)) ?_ (fun i hi r hrr=>?_)
      · have hj := part_len n a hr ht a.f4.length (Nat.le_refl _)
        rw [List.take_of_length_le (by rw [partsL_length]; exact Nat.le_refl _)] at hj ⊢
        have es:(⟨([o] ++ Lib.join (partsL (brF n) a) [44]).toArray⟩:ByteArray).size=([o] ++ Lib.join (partsL (brF n) a) [44]).length:=ba_size _
        rw [List.length_append,List.length_singleton] at es
        refine Ev.step (f:=fun _=>some ((⟨([o] ++ Lib.join (partsL (brF n) a) [44]).toArray⟩:ByteArray) ++ (⟨#[c]⟩:ByteArray))) (fun k=>?_) ?_
        · simp only [spec_l4Text.l0]
          rw [if_neg (by omega),if_pos (by rw [es]; show _ + 1≤_; omega)]
        · refine Ev.eq (fun _ => rfl) (bl_inj ?_)
          rw [bl_append,bl_mk,bl_mk,List.append_assoc]
          rfl
      · have hm := List.getElem_mem hi
        have hd2:=deepK_kid hm
        have ht2:=totK_kid hm
        have hb:=brF_len n _ (hk _ hm)
        have hj:=part_len n a hr ht i (by omega)
        have eb:(⟨(brF n a.f4[i]).toArray⟩:ByteArray).size=(brF n a.f4[i]).length:=ba_size _
        rw [partsL_take _ _ _ hi,join_snoc] at hrr
        have part:∀ x:List UInt8,x.length≤2097152002→Ev (fun k=>spec_l4Text.l0 k ⟨#[c]⟩ ⟨(x ++ (preL a i ++ brF n a.f4[i])).toArray⟩ ((i + 1:Nat):Int) a.f0 a.f1 a.f2 a.f3 a.f4) r→Ev (fun k=>spec_l4Text.j2 k ⟨#[c]⟩ ⟨x.toArray⟩ (i:Int) a.f0 a.f1 a.f2 a.f3 a.f4) r:=by
          intro x hx hev
          have ex:(⟨x.toArray⟩:ByteArray).size=x.length:=ba_size _
          by_cases h5:a.f0=5
          · have hi3 : i < a.f3.length := by rw [hmap h5]; exact hi
            have hql:=quote_len (a.f3.getD i ByteArray.empty)
            rw [← bl_size] at hql
            refine Ev.step (f:=fun k=>(spec_Quote.f k (a.f3.getD i ByteArray.empty)).bind fun t1197=>(if (⟨x.toArray⟩:ByteArray).size + t1197.size≤9223372036854775807 then (if ((⟨x.toArray⟩:ByteArray) ++ t1197).size + 1≤9223372036854775807 then ((spec_l4Text.f k a.f4[i].f0 a.f4[i].f1 a.f4[i].f2 a.f4[i].f3 a.f4[i].f4).bind fun t1199=>(if (((⟨x.toArray⟩:ByteArray) ++ t1197) ++ (⟨#[58]⟩:ByteArray)).size + t1199.size≤9223372036854775807 then (spec_l4Text.l0 k ⟨#[c]⟩ ((((⟨x.toArray⟩:ByteArray) ++ t1197) ++ (⟨#[58]⟩:ByteArray)) ++ t1199) ((i + 1:Nat):Int) a.f0 a.f1 a.f2 a.f3 a.f4) else (none))) else (none)) else (none))) (fun k=>?_) ?_
            · simp only [spec_l4Text.j2]
              rw [if_pos h5,if_pos (by omega),if_pos (by omega),rdB]
              congr 1
              funext t
              rw [if_pos (show (i:Int)<(a.f4.length:Int) by omega),rdK _ _ hi,wsucc (by omega)]
            · refine Ev.bind (q_spec _ (key_sz a ht i hi3)) ?_
              have c1:(⟨x.toArray⟩:ByteArray).size + (quote (a.f3.getD i ByteArray.empty)).size≤9223372036854775807:=by omega
              have c2:((⟨x.toArray⟩:ByteArray) ++ quote (a.f3.getD i ByteArray.empty)).size + 1≤9223372036854775807:=by rw [ByteArray.size_append']; omega
              simp only [c1,c2,if_true]
              refine Ev.bind (spec_br_ev n _ (by omega) (hk _ hm) (by omega)) ?_
              have c3:(((⟨x.toArray⟩:ByteArray) ++ quote (a.f3.getD i ByteArray.empty)) ++ (⟨#[58]⟩:ByteArray)).size + (⟨(brF n a.f4[i]).toArray⟩:ByteArray).size≤9223372036854775807:=by
                rw [ByteArray.size_append',ByteArray.size_append',eb]
                show _ + _ + 1 + _≤_
                omega
              simp only [c3,if_true]
              have ep:(((⟨x.toArray⟩:ByteArray) ++ quote (a.f3.getD i ByteArray.empty)) ++ (⟨#[58]⟩:ByteArray)) ++ (⟨(brF n a.f4[i]).toArray⟩:ByteArray)=⟨(x ++ (preL a i ++ brF n a.f4[i])).toArray⟩:=by
                refine bl_inj ?_
                rw [bl_append,bl_append,bl_append,bl_mk,bl_mk,bl_mk]
                unfold preL
                rw [if_pos h5]
                simp [List.append_assoc,bl]
              rw [ep]
              exact hev
          · refine Ev.step (f := fun k => (spec_l4Text.f k a.f4[i].f0 a.f4[i].f1 a.f4[i].f2 a.f4[i].f3 a.f4[i].f4).bind fun t1201 => (if (⟨x.toArray⟩ : ByteArray).size + t1201.size ≤ 9223372036854775807 then (spec_l4Text.l0 k ⟨#[c]⟩ ((⟨x.toArray⟩ : ByteArray) ++ t1201) ((i + 1 : Nat) : Int) a.f0 a.f1 a.f2 a.f3 a.f4) else (none))) (fun k => ?_) ?_
            · simp only [spec_l4Text.j2]
              rw [if_neg h5,if_pos (by omega),if_pos (by omega),rdK _ _ hi,wsucc (by omega)]
            · refine Ev.bind (spec_br_ev n _ (by omega) (hk _ hm) (by omega)) ?_
              have c3:(⟨x.toArray⟩:ByteArray).size + (⟨(brF n a.f4[i]).toArray⟩:ByteArray).size≤9223372036854775807:=by omega
              simp only [c3,if_true]
              have ep:preL a i ++ brF n a.f4[i]=brF n a.f4[i]:=by unfold preL; rw [if_neg h5]; rfl
              rw [ep] at hev
              rw [ba_append]
              exact hev
        by_cases hi0:i=0
        · subst hi0
          refine Ev.step (f:=fun k=>spec_l4Text.j2 k ⟨#[c]⟩ ⟨([o] ++ Lib.join ((partsL (brF n) a).take 0) [44]).toArray⟩ ((0:Nat):Int) a.f0 a.f1 a.f2 a.f3 a.f4) (fun k=>?_) ?_
          · simp only [spec_l4Text.l0]
            rw [if_pos (by omega),if_neg (by omega)]
          · refine part _ (by simp [Lib.join_nil]) ?_
            rw [List.take_zero,if_pos rfl] at hrr
            simp only [List.take_zero,Lib.join_nil,List.append_nil]
            exact hrr
        · have hne:¬ (partsL (brF n) a).take i=[]:=by
            intro e
            have:=congrArg List.length e
            rw [List.length_take,partsL_length,List.length_nil] at this
            omega
          rw [if_neg hne] at hrr
          refine Ev.step (f:=fun k=>spec_l4Text.j2 k ⟨#[c]⟩ ⟨([o] ++ Lib.join ((partsL (brF n) a).take i) [44] ++ [44]).toArray⟩ (i:Int) a.f0 a.f1 a.f2 a.f3 a.f4) (fun k=>?_) ?_
          · simp only [spec_l4Text.l0]
            have es:(⟨([o] ++ Lib.join ((partsL (brF n) a).take i) [44]).toArray⟩:ByteArray).size=([o] ++ Lib.join ((partsL (brF n) a).take i) [44]).length:=ba_size _
            rw [List.length_append,List.length_singleton] at es
            rw [if_pos (by omega),if_pos (show (i:Int) > 0 by omega),if_pos (by omega),show (⟨([o] ++ Lib.join ((partsL (brF n) a).take i) [44]).toArray⟩:ByteArray) ++ (⟨#[44]⟩:ByteArray)=⟨([o] ++ Lib.join ((partsL (brF n) a).take i) [44] ++ [44]).toArray⟩ from ba_append _ [44]]
          · refine part _ (by simp only [List.length_append, List.length_singleton]; omega) ?_
            have e2:[o] ++ (Lib.join ((partsL (brF n) a).take i) [44] ++ ([44] ++ (preL a i ++ brF n a.f4[i])))=[o] ++ Lib.join ((partsL (brF n) a).take i) [44] ++ [44] ++ (preL a i ++ brF n a.f4[i]):=by simp [List.append_assoc]
            rw [e2] at hrr
            exact hrr
    by_cases h5:a.f0=5
    · rw [if_pos h5, if_pos h5]
      refine Ev.step (f:=fun k=>spec_l4Text.j0 k ⟨#[123]⟩ ⟨#[125]⟩ a.f0 a.f1 a.f2 a.f3 a.f4) (fun k=>by simp only [spec_l4Text.f]; rw [if_neg h0,if_neg h1,if_neg h2,if_neg h3,if_pos h5]) ?_
      exact Ev.step (fun k=>by simp only [spec_l4Text.j0]) (loop 123 125)
    · rw [if_neg h5, if_neg h5]
      refine Ev.step (f:=fun k=>spec_l4Text.j0 k ⟨#[91]⟩ ⟨#[93]⟩ a.f0 a.f1 a.f2 a.f3 a.f4) (fun k=>by simp only [spec_l4Text.f]; rw [if_neg h0,if_neg h1,if_neg h2,if_neg h3,if_neg h5]) ?_
      exact Ev.step (fun k=>by simp only [spec_l4Text.j0]) (loop 91 93)
def bracedK (a:S32):ByteArray:=if treeOkK a=true then ⟨(brF (deepK a) a).toArray⟩ else ⟨#[]⟩
theorem right_of_ok {a:S32} (h:treeOkK a=true):rightK a=true:=by
  unfold treeOkK at h
  simp only [Bool.and_eq_true] at h
  exact h.2
theorem spec_braced_ev (a:S32) (ht:totK a≤1048576):Ev (fun k=>spec_Braced.f k a.f0 a.f1 a.f2 a.f3 a.f4) (bracedK a):=by
  unfold spec_Braced.f bracedK
  refine Ev.bind (spec_treeOk_ev a ht) ?_
  by_cases h:treeOkK a=true
  · simp only [h, if_true]
    exact Ev.bind (spec_br_ev _ a (Nat.le_refl _) (right_of_ok h) ht) (Ev.now _)
  · simp only [h]
    exact Ev.now _
theorem impl_braced_ev (a:S32) (ht:totK a≤1048576):Ev (fun k=>impl_Braced.f k a.f0 a.f1 a.f2 a.f3 a.f4) (bracedK a):=by
  unfold impl_Braced.f bracedK
  refine Ev.bind (impl_treeOk_ev a ht) ?_
  by_cases h:treeOkK a=true
  · simp only [h, if_true]
    exact Ev.bind (impl_br_ev _ a (Nat.le_refl _) (right_of_ok h) ht) (Ev.now _)
  · simp only [h]
    exact Ev.now _
theorem isDigit_eq (c:Int):impl_isDigit.f c=some (digB c):=l1In_eq c 48 57
theorem spec_nameOk (s:ByteArray) (hs:s.size≤140737488351232) (k:Nat) (hk:s.size<k):spec_NameOk.f k s=some (nameOk s):=by
  unfold spec_NameOk.f nameOk
  refine scan0 (g:=fun k i=>spec_NameOk.l0 k s i) (fun k=>?_) (fun k i hi=>?_) k hk
  · simp only [spec_NameOk.l0]
    rw [if_neg (by omega),l1In_eq]
    rfl
  · simp only [spec_NameOk.l0]
    rw [if_pos (by omega),if_pos (by omega),wsucc (by omega)]
    generalize spec_NameOk.l0 k s ((i + 1:Nat):Int)=X
    by_cases hb:nameB s i=true
    · rw [if_pos hb]
      simp only [nameB,lowB,digB,Bool.or_eq_true,Bool.and_eq_true,decide_eq_true_eq] at hb ⊢
      repeat' split
      all_goals first | rfl | (exfalso; omega)
    · rw [if_neg hb]
      simp only [nameB,lowB,digB,Bool.or_eq_true,Bool.and_eq_true,decide_eq_true_eq] at hb ⊢
      repeat' split
      all_goals first | rfl | (exfalso; omega)
theorem impl_nameOk (s:ByteArray) (hs:s.size≤140737488351232) (k:Nat) (hk:s.size<k):impl_NameOk.f k s=some (nameOk s):=by
  unfold impl_NameOk.f nameOk
  refine scan0 (g:=fun k i=>impl_NameOk.l0 k s (s.size:Int) i) (fun k=>?_) (fun k i hi=>?_) k hk
  · simp only [impl_NameOk.l0]
    rw [if_neg (by omega),from_eq]
    rfl
  · simp only [impl_NameOk.l0, isDigit_eq, Option.bind_some]
    rw [if_pos (by omega),if_pos (by omega),if_pos (by omega),wsucc (by omega)]
    generalize impl_NameOk.l0 k s (s.size:Int) ((i + 1:Nat):Int)=X
    by_cases hb:nameB s i=true
    · rw [if_pos hb]
      simp only [nameB,lowB,digB,Bool.or_eq_true,Bool.and_eq_true,decide_eq_true_eq] at hb ⊢
      repeat' split
      all_goals first | rfl | (exfalso; omega)
    · rw [if_neg hb]
      simp only [nameB,lowB,digB,Bool.or_eq_true,Bool.and_eq_true,decide_eq_true_eq] at hb ⊢
      repeat' split
      all_goals first | rfl | (exfalso; omega)
end Go.Proofs.YtdlhidjphaaklaaGreat.M
end
