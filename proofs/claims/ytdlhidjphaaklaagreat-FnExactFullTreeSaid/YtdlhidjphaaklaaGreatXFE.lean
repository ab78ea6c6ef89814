/- Part 5 of the proof of the law FnExactFullTree: what it leans on, in build order. No condition. (Merged by wip/reap.py.) -/
import Derived.Test.YtdlhidjphaaklaaGreatXFD
import Derived.IntWalk
import Derived.Deep.RegionWith
set_option linter.unusedVariables false
set_option linter.unusedSimpArgs false
section
namespace Go.Proofs.YtdlhidjphaaklaaGreat.V
open Go Go.RowKit Go.Proofs.YtdlhidjphaaklaaGreat Go.Proofs.YtdlhidjphaaklaaGreat.P Go.Proofs.YtdlhidjphaaklaaGreatW
set_option maxRecDepth 100000
attribute [local irreducible] thenQ blockQ AWP AOps FinQ Draw One PrintWords.bt
set_option maxHeartbeats 4000000 in
theorem impl_Digits_fn {k:Nat} {a0:Int} {r:ByteArray} (H:impl_Digits.f k a0=some r):Fn Tryz.prog 41 [.val (.int .i64 a0)] [] (.val (.string r)) []:=by
 induction k using Nat.strongRecOn generalizing a0 r with
 |_ k ih =>
 cases k
 ·simp [impl_Digits.f] at H
 rename_i k
 refine w_fn (n:=41) Tryz.func41 rfl rfl rfl rfl rfl ?_
 unfold impl_Digits.f at H; try dsimp only at H
 repeat' first
  |(refine one_id ?_; first
   |refine s_move rfl ?_
   |refine s_load rfl rfl rfl ?_
   |refine s_fldb rfl ?_
   |refine s_zsub rfl rfl ?_
   |refine s_add64 rfl rfl ?_
   |refine s_sub64 rfl rfl ?_
   |refine s_bin rfl rfl rfl ?_
   |refine s_assign rfl ?_
   |refine s_pick rfl rfl ?_
   |refine s_loadr rfl rfl rfl ?_
   |refine s_fldr rfl ?_
   |refine s_not rfl ?_
   |refine s_lens rfl ?_
   |refine s_lenm rfl ?_
   |(refine s_bt rfl rfl ?_ ?_ ?_; (focus (first|assumption|decide|omega)); (focus (first|assumption|decide|omega)))
   |refine s_conv rfl ?_
   |refine s_tostrl rfl ?_
   |refine s_lit rfl rfl rfl rfl ?_
   |refine s_build rfl ?_
   |refine s_neg rfl ?_
   |refine s_rune rfl ?_
   |(refine s_substr rfl rfl rfl ?_ ?_ ?_ ?_; (focus (first|assumption|decide|omega)); (focus (first|assumption|decide|omega)); (focus (first|assumption|decide|omega)))
   |(refine s_cat rfl rfl ?_ ?_; (focus (first|assumption|omega)))
   |(have hb:=Option.bind_eq_some_iff.1 H; clear H; obtain ⟨t,hA,H⟩:=hb; refine s_call rfl (by first|exact ih _ (by omega) hA) (by first|rfl|(simp only [L25_eq,L32_eq,c25_eq,c32_eq]; rfl)|(simp only [List.map_cons,List.map_nil,L25_eq,L32_eq,c25_eq,c32_eq]; rfl)) rfl rfl rfl ?_)
   )
  |(refine q_id ?_; first
   |refine q_one rfl rfl rfl rfl rfl ?_
   |refine q_nil rfl ?_
   |refine q_store rfl rfl rfl rfl rfl rfl rfl rfl rfl rfl ?_
   |(refine q_run rfl rfl rfl rfl ?_ rfl rfl ?_; focus (first|with_reducible rfl|(simp only [Bool.not_true]; done)|(simp only [Bool.not_false]; done)))
   |(refine q_skip rfl rfl rfl rfl ?_ rfl rfl ?_; focus (first|with_reducible rfl|(simp only [Bool.not_true]; done)|(simp only [Bool.not_false]; done)))
   |refine q_dead rfl rfl rfl rfl rfl rfl ?_
   )
  |(refine w_id ?_; first
   |refine w_seq rfl ?_
   |refine w_region rfl ?_
   |refine w_block rfl ?_
   |refine w_ret rfl ?_
   |refine w_skip rfl ?_
   |refine w_exit rfl ?_
   |(refine w_true rfl rfl ?_ ?_; focus (first|with_reducible rfl|(simp only [Bool.not_true]; done)|(simp only [Bool.not_false]; done)))
   |(refine w_false rfl rfl ?_ ?_; focus (first|with_reducible rfl|(simp only [Bool.not_true]; done)|(simp only [Bool.not_false]; done)))
   )
  |(refine t_id ?_; first
   |refine t_norm ?_
   |refine t_exit ?_
   |refine t_ret ?_
   )
  |(refine b_id ?_; first
   |refine b_here ?_
   |refine b_norm ?_
   |refine b_ret ?_
   )
  |(simp (disch:=assumption) only [decide_eq_true,decide_eq_false])
  |(replace H:=(id H:impl_Digits.j0 k _ _=_); cases k; (focus (exfalso; revert H; simp [impl_Digits.j0]; done)); rename_i k; unfold impl_Digits.j0 at H; try dsimp only at H)
  |(obtain rfl:=Option.some.inj H; first|exact fqb2 (.inr rfl) rfl (by first|exact res_tmp rfl|exact res_cell rfl rfl rfl) (by first|exact res_tmp rfl|exact res_cell rfl rfl rfl) rfl rfl rfl rfl rfl|exact fqb3 (.inr rfl) rfl (by first|exact res_tmp rfl|exact res_cell rfl rfl rfl) (by first|exact res_tmp rfl|exact res_cell rfl rfl rfl) (by first|exact res_tmp rfl|exact res_cell rfl rfl rfl) rfl rfl rfl rfl rfl rfl|exact fqb4 (.inr rfl) rfl (by first|exact res_tmp rfl|exact res_cell rfl rfl rfl) (by first|exact res_tmp rfl|exact res_cell rfl rfl rfl) (by first|exact res_tmp rfl|exact res_cell rfl rfl rfl) (by first|exact res_tmp rfl|exact res_cell rfl rfl rfl) rfl rfl rfl rfl rfl rfl rfl|exact fqb0 (.inr rfl) rfl rfl rfl rfl|exact fq1b (.inr rfl) rfl (by first|exact res_tmp rfl|exact res_cell rfl rfl rfl) rfl rfl rfl (.inl rfl)|exact fq1b (.inr rfl) rfl (by first|exact res_tmp rfl|exact res_cell rfl rfl rfl) rfl rfl rfl (.inr ⟨_,_,rfl,by decide⟩)|(simp only [bne_dec,beq_dec]; first|exact fqb2 (.inr rfl) rfl (by first|exact res_tmp rfl|exact res_cell rfl rfl rfl) (by first|exact res_tmp rfl|exact res_cell rfl rfl rfl) rfl rfl rfl rfl rfl|exact fqb3 (.inr rfl) rfl (by first|exact res_tmp rfl|exact res_cell rfl rfl rfl) (by first|exact res_tmp rfl|exact res_cell rfl rfl rfl) (by first|exact res_tmp rfl|exact res_cell rfl rfl rfl) rfl rfl rfl rfl rfl rfl|exact fqb4 (.inr rfl) rfl (by first|exact res_tmp rfl|exact res_cell rfl rfl rfl) (by first|exact res_tmp rfl|exact res_cell rfl rfl rfl) (by first|exact res_tmp rfl|exact res_cell rfl rfl rfl) (by first|exact res_tmp rfl|exact res_cell rfl rfl rfl) rfl rfl rfl rfl rfl rfl rfl|exact fqb0 (.inr rfl) rfl rfl rfl rfl|exact fq1b (.inr rfl) rfl (by first|exact res_tmp rfl|exact res_cell rfl rfl rfl) rfl rfl rfl (.inl rfl)|exact fq1b (.inr rfl) rfl (by first|exact res_tmp rfl|exact res_cell rfl rfl rfl) rfl rfl rfl (.inr ⟨_,_,rfl,by decide⟩) )|exact fq1 (.inr rfl) rfl (by first|exact res_tmp rfl|exact res_cell rfl rfl rfl) rfl rfl|(simp only [bne_dec,beq_dec]; exact fq1 (.inr rfl) rfl (by first|exact res_tmp rfl|exact res_cell rfl rfl rfl) rfl rfl))
  |exact W1.same _
  |exact W1.no _ _
  |exact W1.any _ rfl
  |exact sub3_nil
  |(refine sub3_cons rfl ?_ ?_)
  |(simp only [lit_list,wrapK_i64,wrapK_i32,wrapK_u8,wrap64_u8,Int.reduceToNat,Int.toNat_natCast])
  |(simp (disch:=assumption) only [if_pos,if_neg] at H)
  |(simp only [Option.bind_some] at H)
  |(simp only [beq_dec,bne_dec,decide_eq_true_eq] at H)
  |(have hh:=ite_none_ H; clear H; obtain ⟨hc,H⟩:=hh)
  |(have hh:=ite_none2_ H; clear H; obtain ⟨hc,H⟩:=hh)
  |(refine (ite_some_ H).elim (fun hh=>?_) (fun hh=>?_)<;>clear H<;>obtain ⟨hc,H⟩:=hh<;>first|(cases H; done)|(cases hc; done)|(exact absurd rfl hc)|(subst hc; done)|rw [decide_eq_true hc]|rw [decide_eq_false hc]|rw [@decide_eq_true _ (_) hc]|rw [@decide_eq_false _ (_) hc]|subst hc|(obtain rfl:=Bool.eq_false_iff.2 hc)|rw [hc]|rw [Bool.eq_false_iff.2 hc])
abbrev impl_IntOf_P:Prop:=∀ {a0:Int} {r:_} (H:impl_IntOf.f a0=some r),Fn Tryz.prog 82 [.val (.int .i64 a0)] [] (.agg [.val (.int .i64 r.1),.val (.int .i64 r.2.1),.val (.string r.2.2.1),.row (r.2.2.2.1.map (cS)) .no,.row (r.2.2.2.2.map (c32)) .no]) []
abbrev impl_SpanText_P:Prop:=∀ {k:Nat} {a0:Int} {r:ByteArray} (H:impl_SpanText.f k a0=some r),Fn Tryz.prog 132 [.val (.int .i64 a0)] [] (.val (.string r)) []
abbrev impl_TextOf_P:Prop:=∀ {a0:ByteArray} {r:_} (H:impl_TextOf.f a0=some r),Fn Tryz.prog 85 [.val (.string a0)] [] (.agg [.val (.int .i64 r.1),.val (.int .i64 r.2.1),.val (.string r.2.2.1),.row (r.2.2.2.1.map (cS)) .no,.row (r.2.2.2.2.map (c32)) .no]) []
abbrev impl_mapOf_P:Prop:=∀ {k:Nat} {l0:List ByteArray} {l1:List (S32)} {r:_} (H:impl_mapOf.f k l0 l1=some r),Fn Tryz.prog 123 [.row (l0.map (cS)) .no,.row (l1.map (c32)) .no] [] (.agg [.val (.int .i64 r.1),.val (.int .i64 r.2.1),.val (.string r.2.2.1),.row (r.2.2.2.1.map (cS)) .no,.row (r.2.2.2.2.map (c32)) .no]) []
abbrev impl_isAmount_P:Prop:=∀ {a0:Int} {r:Bool} (H:impl_isAmount.f a0=some r),Fn Tryz.prog 189 [.val (.int .i64 a0)] [] (.val (.bool r)) []
abbrev impl_AmountText_P:Prop:=∀ {k:Nat} {a0:Int} {r:ByteArray} (H:impl_AmountText.f k a0=some r),Fn Tryz.prog 169 [.val (.int .i64 a0)] [] (.val (.string r)) []
abbrev impl_kindWord_P:Prop:=∀ {a0:Int} {r:ByteArray} (H:impl_kindWord.f a0=some r),Fn Tryz.prog 102 [.val (.int .i64 a0)] [] (.val (.string r)) []
abbrev impl_PaceTree_P:Prop:=∀ {k:Nat} {a0_0:Int} {a0_1:Int} {a0_2:Int} {a0_3:Int} {r:_} (H:impl_PaceTree.f k a0_0 a0_1 a0_2 a0_3=some r),Fn Tryz.prog 66 [.agg [.val (.int .i64 a0_0),.val (.int .i64 a0_1),.val (.int .i64 a0_2),.val (.int .i64 a0_3)]] [] (.agg [.val (.int .i64 r.1),.val (.int .i64 r.2.1),.val (.string r.2.2.1),.row (r.2.2.2.1.map (cS)) .no,.row (r.2.2.2.2.map (c32)) .no]) []
abbrev impl_commonTree_P:Prop:=∀ {k:Nat} {a0_0:ByteArray} {a0_1:ByteArray} {a0_2:Int} {a0_3:Int} {l0_4:List (S61)} {a0_5:Int} {a0_6:Int} {a0_7:Int} {a0_8:Int} {l0_9:List (S124)} {a1:ByteArray} {r:_} (H:impl_commonTree.f k a0_0 a0_1 a0_2 a0_3 l0_4 a0_5 a0_6 a0_7 a0_8 l0_9 a1=some r),Fn Tryz.prog 63 [.agg [.val (.string a0_0),.val (.string a0_1),.val (.int .i64 a0_2),.val (.int .i64 a0_3),.row (l0_4.map (c61)) .no,.val (.int .i64 a0_5),.val (.int .i64 a0_6),.val (.int .i64 a0_7),.val (.int .i64 a0_8),.row (l0_9.map (c124)) .no],.val (.string a1)] [] (.agg [.val (.int .i64 r.1),.val (.int .i64 r.2.1),.val (.string r.2.2.1),.row (r.2.2.2.1.map (cS)) .no,.row (r.2.2.2.2.map (c32)) .no]) []
abbrev impl_MetricTree_P:Prop:=∀ {k:Nat} {a0_0:ByteArray} {a0_1:Int} {a0_2:Int} {r:_} (H:impl_MetricTree.f k a0_0 a0_1 a0_2=some r),Fn Tryz.prog 131 [.agg [.val (.string a0_0),.val (.int .i64 a0_1),.val (.int .i64 a0_2)]] [] (.agg [.val (.int .i64 r.1),.val (.int .i64 r.2.1),.val (.string r.2.2.1),.row (r.2.2.2.1.map (cS)) .no,.row (r.2.2.2.2.map (c32)) .no]) []
abbrev impl_metricsTree_P:Prop:=∀ {k:Nat} {l0:List (S61)} {r:_} (H:impl_metricsTree.f k l0=some r),Fn Tryz.prog 65 [.row (l0.map (c61)) .no] [] (.agg [.val (.int .i64 r.1),.val (.int .i64 r.2.1),.val (.string r.2.2.1),.row (r.2.2.2.1.map (cS)) .no,.row (r.2.2.2.2.map (c32)) .no]) []
abbrev impl_notesTree_P:Prop:=∀ {k:Nat} {l0:List (S124)} {r:_} (H:impl_notesTree.f k l0=some r),Fn Tryz.prog 67 [.row (l0.map (c124)) .no] [] (.agg [.val (.int .i64 r.1),.val (.int .i64 r.2.1),.val (.string r.2.2.1),.row (r.2.2.2.1.map (cS)) .no,.row (r.2.2.2.2.map (c32)) .no]) []
set_option maxHeartbeats 16000000 in
theorem grp_impl_IntOf:(impl_IntOf_P)∧(impl_SpanText_P)∧(impl_TextOf_P)∧(impl_mapOf_P)∧(impl_isAmount_P)∧(impl_isAmount_P→impl_AmountText_P)∧(impl_kindWord_P)∧(impl_IntOf_P→impl_SpanText_P→impl_TextOf_P→impl_mapOf_P→impl_PaceTree_P)∧(impl_IntOf_P→impl_TextOf_P→impl_mapOf_P→impl_commonTree_P)∧(impl_TextOf_P→impl_mapOf_P→impl_AmountText_P→impl_kindWord_P→impl_MetricTree_P)∧(impl_MetricTree_P→impl_metricsTree_P)∧(impl_TextOf_P→impl_notesTree_P):=by
 refine ⟨?_,?_,?_,?_,?_,?_,?_,?_,?_,?_,?_,?_⟩
 intro a0 r H; refine w_fn (n:=5) Tryz.func82 rfl rfl rfl rfl rfl ?_; unfold impl_IntOf.f at H; try dsimp only at H
 rotate_left
 intro k a0 r H; refine w_fn (n:=34) Tryz.func132 rfl rfl rfl rfl rfl ?_; unfold impl_SpanText.f at H; try dsimp only at H
 rotate_left
 intro a0 r H; refine w_fn (n:=5) Tryz.func85 rfl rfl rfl rfl rfl ?_; unfold impl_TextOf.f at H; try dsimp only at H
 rotate_left
 intro k l0 l1 r H; refine w_fn (n:=25) Tryz.func123 rfl rfl rfl rfl rfl ?_; unfold impl_mapOf.f at H; try dsimp only at H
 rotate_left
 intro a0 r H; refine w_fn (n:=5) Tryz.func189 rfl rfl rfl rfl rfl ?_; unfold impl_isAmount.f at H; try dsimp only at H
 rotate_left
 intro q_impl_isAmount k a0 r H; refine w_fn (n:=29) Tryz.func169 rfl rfl rfl rfl rfl ?_; unfold impl_AmountText.f at H; try dsimp only at H
 rotate_left
 intro a0 r H; refine w_fn (n:=10) Tryz.func102 rfl rfl rfl rfl rfl ?_; unfold impl_kindWord.f at H; try dsimp only at H
 rotate_left
 intro q_impl_IntOf q_impl_SpanText q_impl_TextOf q_impl_mapOf k a0_0 a0_1 a0_2 a0_3 r H; refine w_fn (n:=20) Tryz.func66 rfl rfl rfl rfl rfl ?_; unfold impl_PaceTree.f at H; try dsimp only at H
 rotate_left
 intro q_impl_IntOf q_impl_TextOf q_impl_mapOf k a0_0 a0_1 a0_2 a0_3 l0_4 a0_5 a0_6 a0_7 a0_8 l0_9 a1 r H; refine w_fn (n:=22) Tryz.func63 rfl rfl rfl rfl rfl ?_; unfold impl_commonTree.f at H; try dsimp only at H
 rotate_left
 intro q_impl_TextOf q_impl_mapOf q_impl_AmountText q_impl_kindWord k a0_0 a0_1 a0_2 r H; refine w_fn (n:=17) Tryz.func131 rfl rfl rfl rfl rfl ?_; unfold impl_MetricTree.f at H; try dsimp only at H
 rotate_left
 intro q_impl_MetricTree k l0 r H; refine w_fn (n:=22) Tryz.func65 rfl rfl rfl rfl rfl ?_; unfold impl_metricsTree.f at H; try dsimp only at H
 rotate_left
 intro q_impl_TextOf k l0 r H; refine w_fn (n:=22) Tryz.func67 rfl rfl rfl rfl rfl ?_; unfold impl_notesTree.f at H; try dsimp only at H
 rotate_left
 repeat' first
  |(refine one_id ?_; first
   |refine s_move rfl ?_
   |refine s_load rfl rfl rfl ?_
   |refine s_fldb rfl ?_
   |refine s_zsub rfl rfl ?_
   |refine s_add64 rfl rfl ?_
   |refine s_sub64 rfl rfl ?_
   |refine s_bin rfl rfl rfl ?_
   |refine s_assign rfl ?_
   |refine s_pick rfl rfl ?_
   |refine s_loadr rfl rfl rfl ?_
   |refine s_fldr rfl ?_
   |refine s_not rfl ?_
   |refine s_lens rfl ?_
   |refine s_lenm rfl ?_
   |(refine s_bt rfl rfl ?_ ?_ ?_; (focus (first|assumption|decide|omega)); (focus (first|assumption|decide|omega)))
   |refine s_ixS rfl rfl ‹_› ‹_› rfl ?_
   |(refine s_ixS rfl rfl ?_ ?_ rfl ?_; (focus (first|assumption|decide|omega)); (focus (first|assumption|decide|omega)))
   |refine s_ix32 rfl rfl ‹_› ‹_› rfl ?_
   |(refine s_ix32 rfl rfl ?_ ?_ rfl ?_; (focus (first|assumption|decide|omega)); (focus (first|assumption|decide|omega)))
   |refine s_ix61 rfl rfl ‹_› ‹_› rfl ?_
   |(refine s_ix61 rfl rfl ?_ ?_ rfl ?_; (focus (first|assumption|decide|omega)); (focus (first|assumption|decide|omega)))
   |refine s_ix124 rfl rfl ‹_› ‹_› rfl ?_
   |(refine s_ix124 rfl rfl ?_ ?_ rfl ?_; (focus (first|assumption|decide|omega)); (focus (first|assumption|decide|omega)))
   |refine s_conv rfl ?_
   |refine s_tostrl rfl ?_
   |refine s_lit rfl rfl rfl rfl ?_
   |refine s_build rfl ?_
   |refine s_neg rfl ?_
   |refine s_rune rfl ?_
   |(refine s_substr rfl rfl rfl ?_ ?_ ?_ ?_; (focus (first|assumption|decide|omega)); (focus (first|assumption|decide|omega)); (focus (first|assumption|decide|omega)))
   |(refine s_cat rfl rfl ?_ ?_; (focus (first|assumption|omega)))
   |(have hb:=Option.bind_eq_some_iff.1 H; clear H; obtain ⟨t,hA,H⟩:=hb; refine s_call rfl (by first|exact impl_Digits_fn hA|exact impl_Set_fn hA|exact impl_from_fn hA|exact q_impl_IntOf hA|exact q_impl_SpanText hA|exact q_impl_TextOf hA|exact q_impl_mapOf hA|exact q_impl_isAmount hA|exact q_impl_AmountText hA|exact q_impl_kindWord hA|exact q_impl_MetricTree hA) (by first|rfl|(simp only [L25_eq,L32_eq,c25_eq,c32_eq]; rfl)|(simp only [List.map_cons,List.map_nil,L25_eq,L32_eq,c25_eq,c32_eq]; rfl)) rfl rfl rfl ?_)
   )
  |(refine q_id ?_; first
   |refine q_alloc rfl rfl rfl rfl rfl ?_
   |refine q_box rfl rfl rfl rfl rfl rfl rfl ?_
   |refine q_one rfl rfl rfl rfl rfl ?_
   |refine q_nil rfl ?_
   |refine q_store rfl rfl rfl rfl rfl rfl rfl rfl rfl rfl ?_
   |(refine q_run rfl rfl rfl rfl ?_ rfl rfl ?_; focus (first|with_reducible rfl|(simp only [Bool.not_true]; done)|(simp only [Bool.not_false]; done)))
   |(refine q_skip rfl rfl rfl rfl ?_ rfl rfl ?_; focus (first|with_reducible rfl|(simp only [Bool.not_true]; done)|(simp only [Bool.not_false]; done)))
   |refine q_dead rfl rfl rfl rfl rfl rfl ?_
   )
  |(refine w_id ?_; first
   |refine w_seq rfl ?_
   |refine w_region rfl ?_
   |refine w_block rfl ?_
   |refine w_ret rfl ?_
   |refine w_skip rfl ?_
   |refine w_exit rfl ?_
   |(refine w_true rfl rfl ?_ ?_; focus (first|with_reducible rfl|(simp only [Bool.not_true]; done)|(simp only [Bool.not_false]; done)))
   |(refine w_false rfl rfl ?_ ?_; focus (first|with_reducible rfl|(simp only [Bool.not_true]; done)|(simp only [Bool.not_false]; done)))
   |refine w_draw (c:=cr (cl (cl (cr (cr (cl (cl (cr (cl (cr (cr (bo Tryz.f123)))))))))))) 7 [] rfl (by kernel_rfl) rfl ?_
   |(refine w_loop3 (fun (v:(List (S32)) × (List ByteArray) × (Int) × (Int) × (Int) × (Int) × (ByteArray) × (List ByteArray) × (List (S32)))=>⟨25,[(1,.row (v.1.map c32) .no),(9,.row (v.2.1.map cS) .no),(10,.val (.int .i64 v.2.2.1)),(11,.val (.int .i64 v.2.2.2.1)),(4,.ptr 0 0),(5,.ptr 1 0)],[[(.val (.int .i64 0)),(.val (.int .i64 0)),(.val (.string ⟨#[]⟩)),(.row [] .nil),(.row [] .nil)],[.val (.int .i64 v.2.2.2.2.1),.val (.int .i64 v.2.2.2.2.2.1),.val (.string v.2.2.2.2.2.2.1),.row (v.2.2.2.2.2.2.2.1.map cS) .no,.row (v.2.2.2.2.2.2.2.2.map c32) .no]],[]⟩) (fun k v=>impl_mapOf.l0 k v.1 v.2.1 v.2.2.1 v.2.2.2.1 v.2.2.2.2.1 v.2.2.2.2.2.1 v.2.2.2.2.2.2.1 v.2.2.2.2.2.2.2.1 v.2.2.2.2.2.2.2.2) _ (_,_,_,_,_,_,_,_,_) rfl (fun _=>rfl) (fun _ _=>rfl) ⟨rfl,?_,?_,rfl,?_,rfl,rfl⟩ rfl H ?_; (focus (repeat' first|exact WB.nil _|refine WB.cons ?_ ?_|exact WL.nil|refine WL.cons ?_ ?_|exact W1.same _|exact W1.no _ _|exact W1.any _ rfl|(simp only [List.map_append,List.map_cons,List.map_nil,Int.zero_sub,wrapK_u8,wrap64_u8,L25_eq,L32_eq,c25_eq,c32_eq]; first|exact W1.same _|exact W1.no _ _|exact W1.any _ rfl))); (focus (first|rfl|(simp only [List.length_append,List.length_map,List.length_cons,List.length_nil]; rfl))); (focus (repeat' first|exact sub3_nil|(refine sub3_cons rfl ?_ ?_; (focus (first|exact W1.same _|exact W1.no _ _|exact W1.any _ rfl|(simp only [List.map_append,List.map_cons,List.map_nil,Int.zero_sub,wrapK_u8,wrap64_u8,L25_eq,L32_eq,c25_eq,c32_eq]; first|exact W1.same _|exact W1.no _ _|exact W1.any _ rfl)))))); clear H; rintro k ⟨x1,x9,x10,x11,x854000,x854001,x854002,x854003,x854004⟩ hk H; simp only [impl_mapOf.l0] at H; dsimp only)
   |refine w_draw (c:=cl (cr (bo Tryz.f66))) 17 [] rfl (by kernel_rfl) rfl ?_
   |refine w_draw (c:=cl (cr (bo Tryz.f63))) 17 [] rfl (by kernel_rfl) rfl ?_
   |refine w_draw (c:=cl (cr (bo Tryz.f131))) 14 [] rfl (by kernel_rfl) rfl ?_
   |refine w_draw (c:=cr (cl (cl (cr (cr (cl (cl (cr (cl (cr (cr (bo Tryz.f65)))))))))))) 7 [] rfl (by kernel_rfl) rfl ?_
   |((try refine w_ownb 1 4 32 5 rfl rfl rfl ?_); refine w_loop3 (fun (v:(List (S61)) × (Int) × (Int) × (Int) × (Int) × (ByteArray) × (List (S32)))=>⟨22,[(7,.row (v.1.map c61) .no),(8,.val (.int .i64 v.2.1)),(9,.val (.int .i64 v.2.2.1)),(2,.ptr 0 0),(3,.ptr 1 0)],[[(.val (.int .i64 0)),(.val (.int .i64 0)),(.val (.string ⟨#[]⟩)),(.row [] .nil),(.row [] .nil)],[.val (.int .i64 v.2.2.2.1),.val (.int .i64 v.2.2.2.2.1),.val (.string v.2.2.2.2.2.1),(.row [] .nil),.row (v.2.2.2.2.2.2.map c32) (.own 0)]],[(v.2.2.2.2.2.2.length,32,5)]⟩) (fun k v=>impl_metricsTree.l0 k v.1 v.2.1 v.2.2.1 v.2.2.2.1 v.2.2.2.2.1 v.2.2.2.2.2.1 v.2.2.2.2.2.2) _ (_,_,_,_,_,_,_) rfl (fun _=>rfl) (fun _ _=>rfl) ⟨rfl,?_,?_,rfl,?_,rfl,rfl⟩ rfl H ?_; (focus (repeat' first|exact WB.nil _|refine WB.cons ?_ ?_|exact WL.nil|refine WL.cons ?_ ?_|exact W1.same _|exact W1.no _ _|exact W1.any _ rfl|(simp only [List.map_append,List.map_cons,List.map_nil,Int.zero_sub,wrapK_u8,wrap64_u8,L25_eq,L32_eq,c25_eq,c32_eq]; first|exact W1.same _|exact W1.no _ _|exact W1.any _ rfl))); (focus (first|rfl|(simp only [List.length_append,List.length_map,List.length_cons,List.length_nil]; rfl))); (focus (repeat' first|exact sub3_nil|(refine sub3_cons rfl ?_ ?_; (focus (first|exact W1.same _|exact W1.no _ _|exact W1.any _ rfl|(simp only [List.map_append,List.map_cons,List.map_nil,Int.zero_sub,wrapK_u8,wrap64_u8,L25_eq,L32_eq,c25_eq,c32_eq]; first|exact W1.same _|exact W1.no _ _|exact W1.any _ rfl)))))); clear H; rintro k ⟨x7,x8,x9,x980000,x980001,x980002,x980004⟩ hk H; simp only [impl_metricsTree.l0] at H; dsimp only)
   |refine w_draw (c:=cr (cl (cl (cr (cr (cl (cl (cr (cl (cr (cr (bo Tryz.f67)))))))))))) 7 [] rfl (by kernel_rfl) rfl ?_
   |(refine w_loop3 (fun (v:(List (S124)) × (Int) × (Int) × (Int) × (Int) × (ByteArray) × (List ByteArray) × (List (S32)))=>⟨22,[(7,.row (v.1.map c124) .no),(8,.val (.int .i64 v.2.1)),(9,.val (.int .i64 v.2.2.1)),(2,.ptr 0 0),(3,.ptr 1 0)],[[(.val (.int .i64 0)),(.val (.int .i64 0)),(.val (.string ⟨#[]⟩)),(.row [] .nil),(.row [] .nil)],[.val (.int .i64 v.2.2.2.1),.val (.int .i64 v.2.2.2.2.1),.val (.string v.2.2.2.2.2.1),.row (v.2.2.2.2.2.2.1.map cS) .no,.row (v.2.2.2.2.2.2.2.map c32) .no]],[]⟩) (fun k v=>impl_notesTree.l0 k v.1 v.2.1 v.2.2.1 v.2.2.2.1 v.2.2.2.2.1 v.2.2.2.2.2.1 v.2.2.2.2.2.2.1 v.2.2.2.2.2.2.2) _ (_,_,_,_,_,_,_,_) rfl (fun _=>rfl) (fun _ _=>rfl) ⟨rfl,?_,?_,rfl,?_,rfl,rfl⟩ rfl H ?_; (focus (repeat' first|exact WB.nil _|refine WB.cons ?_ ?_|exact WL.nil|refine WL.cons ?_ ?_|exact W1.same _|exact W1.no _ _|exact W1.any _ rfl|(simp only [List.map_append,List.map_cons,List.map_nil,Int.zero_sub,wrapK_u8,wrap64_u8,L25_eq,L32_eq,c25_eq,c32_eq]; first|exact W1.same _|exact W1.no _ _|exact W1.any _ rfl))); (focus (first|rfl|(simp only [List.length_append,List.length_map,List.length_cons,List.length_nil]; rfl))); (focus (repeat' first|exact sub3_nil|(refine sub3_cons rfl ?_ ?_; (focus (first|exact W1.same _|exact W1.no _ _|exact W1.any _ rfl|(simp only [List.map_append,List.map_cons,List.map_nil,Int.zero_sub,wrapK_u8,wrap64_u8,L25_eq,L32_eq,c25_eq,c32_eq]; first|exact W1.same _|exact W1.no _ _|exact W1.any _ rfl)))))); clear H; rintro k ⟨x7,x8,x9,x1055000,x1055001,x1055002,x1055003,x1055004⟩ hk H; simp only [impl_notesTree.l0] at H; dsimp only)
   )
  |(refine t_id ?_; first
   |refine t_norm ?_
   |refine t_exit ?_
   |refine t_ret ?_
   )
  |(refine b_id ?_; first
   |refine b_here ?_
   |refine b_norm ?_
   |refine b_ret ?_
   )
  |(refine e_id ?_; first
   |refine e_alloc rfl rfl rfl rfl rfl rfl ?_
   |(refine e_append rfl rfl rfl rfl rfl rfl rfl rfl ?_ rfl ?_ ?_ ?_ ?_; (focus (first|rfl|(simp only [List.length_append,List.length_map,List.length_cons,List.length_nil,Nat.zero_add])|exact List.length_map _)); (focus (repeat' first|exact len_lit rfl|(refine len_map ?_; intro _; rfl)|refine len_app ?_ ?_)); (focus (repeat' first|exact len_lit rfl|(refine len_map ?_; intro _; rfl)|refine len_app ?_ ?_)); (focus (constructor<;>first|omega|(simp only [List.length_append,List.length_map,List.length_cons,List.length_nil] at *; omega))))
   |refine e_one rfl rfl rfl rfl rfl ?_
   |refine e_end rfl ?_
   |(refine e_run rfl rfl rfl rfl ?_ rfl rfl ?_; focus (first|with_reducible rfl|(simp only [Bool.not_true]; done)|(simp only [Bool.not_false]; done)))
   |(refine e_skip rfl rfl rfl rfl ?_ rfl rfl ?_; focus (first|with_reducible rfl|(simp only [Bool.not_true]; done)|(simp only [Bool.not_false]; done)))
   |refine e_dead rfl rfl rfl rfl rfl rfl ?_
   )
  |(simp (disch:=assumption) only [decide_eq_true,decide_eq_false])
  |(replace H:=(id H:impl_SpanText.j0 k _ _=_); cases k; (focus (exfalso; revert H; simp [impl_SpanText.j0]; done)); rename_i k; unfold impl_SpanText.j0 at H; try dsimp only at H)
  |(replace H:=(id H:impl_SpanText.j1 k _ _=_); cases k; (focus (exfalso; revert H; simp [impl_SpanText.j1]; done)); rename_i k; unfold impl_SpanText.j1 at H; try dsimp only at H)
  |(refine ⟨_,(_,_,_,_,_,_,_,_,_),?_,?_,H⟩; (focus omega); refine ⟨rfl,?_,?_,rfl,?_,rfl,rfl⟩; (focus (repeat' first|exact WB.nil _|refine WB.cons ?_ ?_|exact WL.nil|refine WL.cons ?_ ?_|exact W1.same _|exact W1.no _ _|exact W1.any _ rfl|(simp only [List.map_append,List.map_cons,List.map_nil,Int.zero_sub,wrapK_u8,wrap64_u8,L25_eq,L32_eq,c25_eq,c32_eq]; first|exact W1.same _|exact W1.no _ _|exact W1.any _ rfl))); (focus (first|rfl|(simp only [List.length_append,List.length_map,List.length_cons,List.length_nil]; rfl))); (focus (repeat' first|exact sub3_nil|(refine sub3_cons rfl ?_ ?_; (focus (first|exact W1.same _|exact W1.no _ _|exact W1.any _ rfl|(simp only [List.map_append,List.map_cons,List.map_nil,Int.zero_sub,wrapK_u8,wrap64_u8,L25_eq,L32_eq,c25_eq,c32_eq]; first|exact W1.same _|exact W1.no _ _|exact W1.any _ rfl)))))))
  |(replace H:=(id H:impl_AmountText.j0 k _ _=_); cases k; (focus (exfalso; revert H; simp [impl_AmountText.j0]; done)); rename_i k; unfold impl_AmountText.j0 at H; try dsimp only at H)
  |(refine ⟨_,(_,_,_,_,_,_,_),?_,?_,H⟩; (focus omega); refine ⟨rfl,?_,?_,rfl,?_,rfl,rfl⟩; (focus (repeat' first|exact WB.nil _|refine WB.cons ?_ ?_|exact WL.nil|refine WL.cons ?_ ?_|exact W1.same _|exact W1.no _ _|exact W1.any _ rfl|(simp only [List.map_append,List.map_cons,List.map_nil,Int.zero_sub,wrapK_u8,wrap64_u8,L25_eq,L32_eq,c25_eq,c32_eq]; first|exact W1.same _|exact W1.no _ _|exact W1.any _ rfl))); (focus (first|rfl|(simp only [List.length_append,List.length_map,List.length_cons,List.length_nil]; rfl))); (focus (repeat' first|exact sub3_nil|(refine sub3_cons rfl ?_ ?_; (focus (first|exact W1.same _|exact W1.no _ _|exact W1.any _ rfl|(simp only [List.map_append,List.map_cons,List.map_nil,Int.zero_sub,wrapK_u8,wrap64_u8,L25_eq,L32_eq,c25_eq,c32_eq]; first|exact W1.same _|exact W1.no _ _|exact W1.any _ rfl)))))))
  |(refine ⟨_,(_,_,_,_,_,_,_,_),?_,?_,H⟩; (focus omega); refine ⟨rfl,?_,?_,rfl,?_,rfl,rfl⟩; (focus (repeat' first|exact WB.nil _|refine WB.cons ?_ ?_|exact WL.nil|refine WL.cons ?_ ?_|exact W1.same _|exact W1.no _ _|exact W1.any _ rfl|(simp only [List.map_append,List.map_cons,List.map_nil,Int.zero_sub,wrapK_u8,wrap64_u8,L25_eq,L32_eq,c25_eq,c32_eq]; first|exact W1.same _|exact W1.no _ _|exact W1.any _ rfl))); (focus (first|rfl|(simp only [List.length_append,List.length_map,List.length_cons,List.length_nil]; rfl))); (focus (repeat' first|exact sub3_nil|(refine sub3_cons rfl ?_ ?_; (focus (first|exact W1.same _|exact W1.no _ _|exact W1.any _ rfl|(simp only [List.map_append,List.map_cons,List.map_nil,Int.zero_sub,wrapK_u8,wrap64_u8,L25_eq,L32_eq,c25_eq,c32_eq]; first|exact W1.same _|exact W1.no _ _|exact W1.any _ rfl)))))))
  |(obtain rfl:=Option.some.inj H; first|exact fqb2 (.inr rfl) rfl (by first|exact res_tmp rfl|exact res_cell rfl rfl rfl) (by first|exact res_tmp rfl|exact res_cell rfl rfl rfl) rfl rfl rfl rfl rfl|exact fqb3 (.inr rfl) rfl (by first|exact res_tmp rfl|exact res_cell rfl rfl rfl) (by first|exact res_tmp rfl|exact res_cell rfl rfl rfl) (by first|exact res_tmp rfl|exact res_cell rfl rfl rfl) rfl rfl rfl rfl rfl rfl|exact fqb4 (.inr rfl) rfl (by first|exact res_tmp rfl|exact res_cell rfl rfl rfl) (by first|exact res_tmp rfl|exact res_cell rfl rfl rfl) (by first|exact res_tmp rfl|exact res_cell rfl rfl rfl) (by first|exact res_tmp rfl|exact res_cell rfl rfl rfl) rfl rfl rfl rfl rfl rfl rfl|exact fqb0 (.inr rfl) rfl rfl rfl rfl|exact fq1b (.inr rfl) rfl (by first|exact res_tmp rfl|exact res_cell rfl rfl rfl) rfl rfl rfl (.inl rfl)|exact fq1b (.inr rfl) rfl (by first|exact res_tmp rfl|exact res_cell rfl rfl rfl) rfl rfl rfl (.inr ⟨_,_,rfl,by decide⟩)|(simp only [bne_dec,beq_dec]; first|exact fqb2 (.inr rfl) rfl (by first|exact res_tmp rfl|exact res_cell rfl rfl rfl) (by first|exact res_tmp rfl|exact res_cell rfl rfl rfl) rfl rfl rfl rfl rfl|exact fqb3 (.inr rfl) rfl (by first|exact res_tmp rfl|exact res_cell rfl rfl rfl) (by first|exact res_tmp rfl|exact res_cell rfl rfl rfl) (by first|exact res_tmp rfl|exact res_cell rfl rfl rfl) rfl rfl rfl rfl rfl rfl|exact fqb4 (.inr rfl) rfl (by first|exact res_tmp rfl|exact res_cell rfl rfl rfl) (by first|exact res_tmp rfl|exact res_cell rfl rfl rfl) (by first|exact res_tmp rfl|exact res_cell rfl rfl rfl) (by first|exact res_tmp rfl|exact res_cell rfl rfl rfl) rfl rfl rfl rfl rfl rfl rfl|exact fqb0 (.inr rfl) rfl rfl rfl rfl|exact fq1b (.inr rfl) rfl (by first|exact res_tmp rfl|exact res_cell rfl rfl rfl) rfl rfl rfl (.inl rfl)|exact fq1b (.inr rfl) rfl (by first|exact res_tmp rfl|exact res_cell rfl rfl rfl) rfl rfl rfl (.inr ⟨_,_,rfl,by decide⟩) )|exact fq1 (.inr rfl) rfl (by first|exact res_tmp rfl|exact res_cell rfl rfl rfl) rfl rfl|(simp only [bne_dec,beq_dec]; exact fq1 (.inr rfl) rfl (by first|exact res_tmp rfl|exact res_cell rfl rfl rfl) rfl rfl))
  |exact W1.same _
  |exact W1.no _ _
  |exact W1.any _ rfl
  |exact sub3_nil
  |(refine sub3_cons rfl ?_ ?_)
  |(simp only [lit_list,wrapK_i64,wrapK_i32,wrapK_u8,wrap64_u8,Int.reduceToNat,Int.toNat_natCast])
  |(simp (disch:=assumption) only [if_pos,if_neg] at H)
  |(simp only [Option.bind_some] at H)
  |(simp only [beq_dec,bne_dec,decide_eq_true_eq] at H)
  |(have hh:=ite_none_ H; clear H; obtain ⟨hc,H⟩:=hh)
  |(have hh:=ite_none2_ H; clear H; obtain ⟨hc,H⟩:=hh)
  |(refine (ite_some_ H).elim (fun hh=>?_) (fun hh=>?_)<;>clear H<;>obtain ⟨hc,H⟩:=hh<;>first|(cases H; done)|(cases hc; done)|(exact absurd rfl hc)|(subst hc; done)|rw [decide_eq_true hc]|rw [decide_eq_false hc]|rw [@decide_eq_true _ (_) hc]|rw [@decide_eq_false _ (_) hc]|subst hc|(obtain rfl:=Bool.eq_false_iff.2 hc)|rw [hc]|rw [Bool.eq_false_iff.2 hc])
theorem impl_IntOf_fn:impl_IntOf_P:=grp_impl_IntOf.1
theorem impl_SpanText_fn:impl_SpanText_P:=grp_impl_IntOf.2.1
theorem impl_TextOf_fn:impl_TextOf_P:=grp_impl_IntOf.2.2.1
theorem impl_mapOf_fn:impl_mapOf_P:=grp_impl_IntOf.2.2.2.1
theorem impl_isAmount_fn:impl_isAmount_P:=grp_impl_IntOf.2.2.2.2.1
theorem impl_AmountText_fn:impl_AmountText_P:=grp_impl_IntOf.2.2.2.2.2.1 impl_isAmount_fn
theorem impl_kindWord_fn:impl_kindWord_P:=grp_impl_IntOf.2.2.2.2.2.2.1
theorem impl_PaceTree_fn:impl_PaceTree_P:=grp_impl_IntOf.2.2.2.2.2.2.2.1 impl_IntOf_fn impl_SpanText_fn impl_TextOf_fn impl_mapOf_fn
theorem impl_commonTree_fn:impl_commonTree_P:=grp_impl_IntOf.2.2.2.2.2.2.2.2.1 impl_IntOf_fn impl_TextOf_fn impl_mapOf_fn
theorem impl_MetricTree_fn:impl_MetricTree_P:=grp_impl_IntOf.2.2.2.2.2.2.2.2.2.1 impl_TextOf_fn impl_mapOf_fn impl_AmountText_fn impl_kindWord_fn
theorem impl_metricsTree_fn:impl_metricsTree_P:=grp_impl_IntOf.2.2.2.2.2.2.2.2.2.2.1 impl_MetricTree_fn
theorem impl_notesTree_fn:impl_notesTree_P:=grp_impl_IntOf.2.2.2.2.2.2.2.2.2.2.2 impl_TextOf_fn
end Go.Proofs.YtdlhidjphaaklaaGreat.V
end
section
namespace Go.Proofs.YtdlhidjphaaklaaGreat.V
open Go Go.RowKit Go.Proofs.YtdlhidjphaaklaaGreat Go.Proofs.YtdlhidjphaaklaaGreat.P Go.Proofs.YtdlhidjphaaklaaGreatW Go.Proofs.YtdlhidjphaaklaaGreatW.PrintWords Go.Proofs.YtdlhidjphaaklaaGreatW.PrintLast Go.Proofs.YtdlhidjphaaklaaGreat.M Go.Proofs.YtdlhidjphaaklaaGreat.H
set_option maxRecDepth 100000
set_option maxHeartbeats 8000000 in
theorem fullTree_last {w0:World} {k:Nat} (X Y:P.S32) {o0 o1 o2 o3 o4 o5 o6 o7 o8 z0 z1 z2 z3 z4:AV} {l9:List P.S124} (hN:impl_notesTree.f k l9=some (Y.f0,Y.f1,Y.f2,Y.f3,Y.f4)) (hcx:cntTop X≤1099511627776) (hcy:cntTop Y≤1099511627776) :
  CK Tryz.prog ⟨w0,fun b _=>b<w0.heap.size,[]⟩ (bodyPost Tryz.prog Tryz.f20 fun e w'=>Made w0 (setV X (⟨#[110,111,116,101,115]⟩:ByteArray) Y) e w') (cr (cr (cr (cr (cr (bo Tryz.f20)))))) ⟨25,[(1,.ptr 0 0),(2,.ptr 1 0),(3,.ptr 2 0)],[[o0,o1,o2,o3,o4,o5,o6,o7,o8,.row (l9.map c124) .no],[z0,z1,z2,z3,z4],[.val (.int .i64 X.f0),.val (.int .i64 X.f1),.val (.string X.f2),.row (X.f3.map cS) .no,.row (X.f4.map c32) .no]],[]⟩:=by
 intro E a w hI
 obtain ⟨g0,us0,ty0,p1,q0,b0,r0⟩:=hI.box_at (d:=1) (i:=0) rfl rfl
 obtain ⟨g1,us1,ty1,p2,q1,b1,r1⟩:=hI.box_at (d:=2) (i:=1) rfl rfl
 obtain ⟨g2,us2,ty2,p3,q2,b2,r2⟩:=hI.box_at (d:=3) (i:=2) rfl rfl
 have h12:g1 ≠ g2:=fun e=>absurd (hI.inj 1 2 g1 q1 (e ▸ q2)) (by decide)
 have hf1:w0.heap.size≤g1:=by rcases (hI.fresh 1 g1 q1).2 with h|h; exact h; simp at h
 have hB0:Below w0.heap.size w0 w:=⟨hI.os,hI.tape,hI.output,hI.size,fun k hk=>hI.block k hk (by simp)⟩
 obtain ⟨x0,y0,rfl,e0,r2⟩:=reps_cons r2
 obtain ⟨x1,y1,rfl,e1,r2⟩:=reps_cons r2
 obtain ⟨x2,y2,rfl,e2,r2⟩:=reps_cons r2
 obtain ⟨x3,y3,rfl,e3,r2⟩:=reps_cons r2
 obtain ⟨x4,y4,rfl,e4,r2⟩:=reps_cons r2
 obtain rfl:=reps_nil r2
 obtain rfl:=(rep_val e0).1
 obtain rfl:=(rep_val e1).1
 obtain rfl:=(rep_val e2).1
 obtain ⟨A3,c3,rfl,l3,k3⟩:=row_of ka_string.len (fun x _ cs h=>ka_string.of h) e3
 obtain ⟨A4,c4,rfl,l4,k4⟩:=row_of ka32.len (fun x _ cs h=>ka32.of h) e4
 obtain ⟨s0,t0,rfl,d0,r0⟩:=reps_cons r0
 obtain ⟨s1,t1,rfl,d1,r0⟩:=reps_cons r0
 obtain ⟨s2,t2,rfl,d2,r0⟩:=reps_cons r0
 obtain ⟨s3,t3,rfl,d3,r0⟩:=reps_cons r0
 obtain ⟨s4,t4,rfl,d4,r0⟩:=reps_cons r0
 obtain ⟨s5,t5,rfl,d5,r0⟩:=reps_cons r0
 obtain ⟨s6,t6,rfl,d6,r0⟩:=reps_cons r0
 obtain ⟨s7,t7,rfl,d7,r0⟩:=reps_cons r0
 obtain ⟨s8,t8,rfl,d8,r0⟩:=reps_cons r0
 obtain ⟨s9,t9,rfl,d9,r0⟩:=reps_cons r0
 obtain rfl:=reps_nil r0
 obtain ⟨A9,c9,rfl,l9',k9⟩:=row_of ka124.len (fun x _ cs h=>ka124.of h) d9
 obtain ⟨m0,n0,rfl,_,r1⟩:=reps_cons r1
 obtain ⟨m1,n1,rfl,_,r1⟩:=reps_cons r1
 obtain ⟨m2,n2,rfl,_,r1⟩:=reps_cons r1
 obtain ⟨m3,n3,rfl,_,r1⟩:=reps_cons r1
 obtain ⟨m4,n4,rfl,_,r1⟩:=reps_cons r1
 obtain rfl:=reps_nil r1
 have htz:=hI.tsz; have hdf:=hI.defers; clear hI d0 d1 d2 d3 d4 d5 d6 d7 d8 d9 e0 e1 e2 e3 e4 q0 q1 q2
 obtain ⟨⟨tm⟩,df⟩:=a
 obtain rfl:df=[]:=hdf
 replace htz:tm.length=25:=htz
 obtain ⟨u0,tm0,rfl,hz0⟩:=cons_of htz
 obtain ⟨u1,tm1,rfl,hz1⟩:=cons_of hz0
 obtain ⟨u2,tm2,rfl,hz2⟩:=cons_of hz1
 obtain ⟨u3,tm3,rfl,hz3⟩:=cons_of hz2
 obtain ⟨u4,tm4,rfl,hz4⟩:=cons_of hz3
 obtain ⟨u5,tm5,rfl,hz5⟩:=cons_of hz4
 obtain ⟨u6,tm6,rfl,hz6⟩:=cons_of hz5
 obtain ⟨u7,tm7,rfl,hz7⟩:=cons_of hz6
 obtain ⟨u8,tm8,rfl,hz8⟩:=cons_of hz7
 obtain ⟨u9,tm9,rfl,hz9⟩:=cons_of hz8
 obtain ⟨u10,tm10,rfl,hz10⟩:=cons_of hz9
 obtain ⟨u11,tm11,rfl,hz11⟩:=cons_of hz10
 obtain ⟨u12,tm12,rfl,hz12⟩:=cons_of hz11
 obtain ⟨u13,tm13,rfl,hz13⟩:=cons_of hz12
 obtain ⟨u14,tm14,rfl,hz14⟩:=cons_of hz13
 obtain ⟨u15,tm15,rfl,hz15⟩:=cons_of hz14
 obtain ⟨u16,tm16,rfl,hz16⟩:=cons_of hz15
 obtain ⟨u17,tm17,rfl,hz17⟩:=cons_of hz16
 obtain ⟨u18,tm18,rfl,hz18⟩:=cons_of hz17
 obtain ⟨u19,tm19,rfl,hz19⟩:=cons_of hz18
 obtain ⟨u20,tm20,rfl,hz20⟩:=cons_of hz19
 obtain ⟨u21,tm21,rfl,hz21⟩:=cons_of hz20
 obtain ⟨u22,tm22,rfl,hz22⟩:=cons_of hz21
 obtain ⟨u23,tm23,rfl,hz23⟩:=cons_of hz22
 obtain ⟨u24,tm24,rfl,hz24⟩:=cons_of hz23
 obtain rfl:=List.eq_nil_of_length_eq_zero hz24
 clear hz0 hz1 hz2 hz3 hz4 hz5 hz6 hz7 hz8 hz9 hz10 hz11 hz12 hz13 hz14 hz15 hz16 hz17 hz18 hz19 hz20 hz21 hz22 hz23
 obtain rfl:u1=_:=Option.some.inj p1
 obtain rfl:u2=_:=Option.some.inj p2
 obtain rfl:u3=_:=Option.some.inj p3
 clear p1 p2 p3
 have BX:=Lib.hid b2
 have BR:=Lib.hid b1
 have BO:=Lib.hid b0
 have K3:=Lib.hid k3
 have K4:=Lib.hid k4
 have K9:=Lib.hid k9
 have HB:=Lib.hid hB0
 have HCX:=Lib.hid hcx
 have HCY:=Lib.hid hcy
 have hu:=Tryz.underlying32
 have h2w:g2<w.heap.size:=blk_lt b2
 have h0w:g0<w.heap.size:=blk_lt b0
 obtain ⟨v0,v1,v2,v3,v4⟩:=cells5 b2
 have v9:w.cell? ⟨g0,9,none⟩=some (.slice A9 l9.length c9):=(blk_cell b0 9).trans rfl
 have SO:Hid (∀ W:World,Below w.heap.size w W→(W.cell? ⟨g2,0,none⟩=some (.int .i64 X.f0)∧W.cell? ⟨g2,1,none⟩=some (.int .i64 X.f1)∧W.cell? ⟨g2,2,none⟩=some (.string X.f2)∧W.cell? ⟨g2,3,none⟩=some (.slice A3 X.f3.length c3)∧W.cell? ⟨g2,4,none⟩=some (.slice A4 X.f4.length c4))∧W.cell? ⟨g0,9,none⟩=some (.slice A9 l9.length c9)):=fun W hW =>
  ⟨⟨below_cell hW h2w v0,below_cell hW h2w v1,below_cell hW h2w v2,below_cell hW h2w v3,below_cell hW h2w v4⟩,below_cell hW h0w v9⟩
 have HN:=Lib.hid hN
 clear b0 b1 b2 k3 k4 k9 hB0 hcx hcy hN
 dsimp only [bo,cr,cl,Tryz.f20,Option.getD]
 go_wp2
 refine start_ (n:=6) (S:=fun W=>(W.cell? ⟨g2,0,none⟩=some (.int .i64 X.f0)∧W.cell? ⟨g2,1,none⟩=some (.int .i64 X.f1)∧W.cell? ⟨g2,2,none⟩=some (.string X.f2)∧W.cell? ⟨g2,3,none⟩=some (.slice A3 X.f3.length c3)∧W.cell? ⟨g2,4,none⟩=some (.slice A4 X.f4.length c4))∧W.cell? ⟨g0,9,none⟩=some (.slice A9 l9.length c9)) (ds:=[5]) #[false,false,false,false,false,false] (by kernel_rfl) rfl rfl (SO.out _ (below_drew (Below.refl _ _))) (fun hHeld=>?_)
 refine take_ (i:=0) (N:=some 20) (v:=?_) (a':=?_) (bs_ 6 1) rfl rfl (by kernel_rfl) (fun _ _ _ h=>h) (Or.inl ⟨by rfl,?_⟩) hHeld ?_ ?_
 rotate_left
 ·rintro w' ⟨⟨s0,s1,s2,s3,s4⟩,s5⟩
  go_simp
  (first|with_reducible rfl|rfl)
 rotate_left
 ·simp only [Act.put,List.setIfInBounds_toArray,List.set_cons_zero,List.set_cons_succ]
  rfl
 refine pure_ (i:=1) (N:=some 21) (v:=_) (a':=_) (bs_ 6 3) rfl rfl (by kernel_rfl) (fun _ _ _ h=>h) (Or.inl ⟨by rfl,by intro w'; go_simp; first|with_reducible rfl|rfl⟩) (by simp only [Act.put,List.setIfInBounds_toArray,List.set_cons_zero,List.set_cons_succ]; rfl) ?_
 refine take_ (i:=2) (N:=some 22) (v:=?_) (a':=?_) (bs_ 6 7) rfl rfl (by kernel_rfl) (fun _ _ _ h=>h) (Or.inl ⟨by rfl,?_⟩) hHeld ?_ ?_
 rotate_left
 ·rintro w' ⟨⟨s0,s1,s2,s3,s4⟩,s5⟩
  go_simp
  (first|with_reducible rfl|rfl)
 rotate_left
 ·simp only [Act.put,List.setIfInBounds_toArray,List.set_cons_zero,List.set_cons_succ]
  rfl
 refine one_ (i:=3) (N:=some 23) (bs_ 6 15) rfl rfl (by kernel_rfl) (by decide) (fun K hK=>?_)
 refine goes_ Tryz.func67 (by kernel_rfl) rfl #[.slice A9 l9.length c9] (by rfl) rfl rfl (by (try simp only [List.map_toArray,List.map_cons,List.map_nil]); first|done|rfl) ?_
 refine (fn_calls (impl_notesTree_fn HN.out) (vs:=[.slice A9 l9.length c9]) (reps_cons_mk (row_to [] (by decide) ka124.len ka124.fl (fun x _ cs h=>ka124.fwd [] h) (Kd.C_below K9.out (below_drew (Below.refl _ _))) l9') reps_nil_mk)).mono ?_
 rintro e w5 ⟨yv,F5,gs5,rfl,hr,hb⟩
 obtain ⟨ys,rfl,hr0⟩:=rep_agg hr
 obtain ⟨j0,w0_,rfl,f0,hr1⟩:=reps_cons hr0
 obtain ⟨j1,w1_,rfl,f1,hr2⟩:=reps_cons hr1
 obtain ⟨j2,w2_,rfl,f2,hr3⟩:=reps_cons hr2
 obtain ⟨j3,w3_,rfl,f3,hr4⟩:=reps_cons hr3
 obtain ⟨j4,w4_,rfl,f4,hr5⟩:=reps_cons hr4
 obtain rfl:=reps_nil hr5
 clear hr hr0 hr1 hr2 hr3 hr4 hr5
 obtain rfl:=(rep_val f0).1
 obtain rfl:=(rep_val f1).1
 obtain rfl:=(rep_val f2).1
 obtain ⟨B3,m3',rfl,i3,kk3⟩:=row_of ka_string.len (fun x _ cs h=>ka_string.of h) f3
 obtain ⟨B4,m4',rfl,i4,kk4⟩:=row_of ka32.len (fun x _ cs h=>ka32.of h) f4
 refine ⟨_,rfl,?_⟩
 have HW5:=Lib.hid ((below_drew (Below.refl w.heap.size w)).trans hb)
 have J3:=Lib.hid kk3; have J4:=Lib.hid kk4; clear kk3 kk4 hb f0 f1 f2 f3 f4
 refine hK.out _ _ (SO.out _ HW5.out) (fun hHeld=>?_)
 clear hK K
 refine norm_ (a':=?_) ?_ ?_
 rotate_left
 ·show Act.put _ (some 23) _=_
  simp only [Act.put,List.setIfInBounds_toArray,List.set_cons_zero,List.set_cons_succ]
  rfl
 refine one_ (i:=4) (N:=some 24) (bs_ 6 31) rfl rfl (by kernel_rfl) (by decide) (fun K hK=>?_)
 refine goes_ Tryz.func64 (by kernel_rfl) rfl #[.agg #[.int .i64 X.f0,.int .i64 X.f1,.string X.f2,.slice A3 X.f3.length c3,.slice A4 X.f4.length c4],.string (⟨#[110,111,116,101,115]⟩:ByteArray),.agg #[.int .i64 Y.f0,.int .i64 Y.f1,.string Y.f2,.slice B3 Y.f3.length m3',.slice B4 Y.f4.length m4']] (by rfl) rfl rfl (by (try simp only [List.map_toArray,List.map_cons,List.map_nil]); first|done|rfl) ?_
 refine (set_calls X (⟨#[110,111,116,101,115]⟩:ByteArray) Y HCX.out HCY.out A3 A4 B3 B4 c3 c4 m3' m4' w5 (Kd.C_below K3.out HW5.out) l3 (Kd.C_below K4.out HW5.out) l4 J3.out i3 J4.out i4).mono ?_
 rintro e w6 ⟨u3_,u4_,gs,rfl,ht,hf,hb⟩
 refine ⟨_,rfl,?_⟩
 have HW6:=Lib.hid (HW5.out.trans (hb.mono HW5.out.size))
 have hs6:=Seen.of_top ht; obtain ⟨D3,r3,D4,r4,rfl,rfl,_,_,_,_⟩:=hs6
 have HT6:=Lib.hid ht; have HF6:=Lib.hid (fun q hq=>Nat.le_trans HW5.out.size (hf q hq)); have BR6:=Lib.hid (blk_below BR.out HW6.out); clear ht hf hb
 obtain ⟨fo0,fo1,fo2,fo3,fo4⟩:=free5 BR6.out; obtain ⟨ro0,ro1,ro2,ro3,ro4⟩:=cells5 BR6.out
 refine hK.out _ _ (SO.out _ HW6.out) (fun hHeld=>?_)
 clear hK K
 refine norm_ (a':=?_) ?_ ?_
 rotate_left
 ·show Act.put _ (some 24) _=_
  simp only [Act.put,List.setIfInBounds_toArray,List.set_cons_zero,List.set_cons_succ]
  rfl
 refine last_ (i:=5) (N:=none) (bs_ 6 63) rfl rfl (by kernel_rfl) (by decide) (fun K hK=>?_)
 refine skip_ (w1:=?_) (by rfl) rfl ?_ ?_
 rotate_left
 ·go_simp
  rfl
 refine hK.out _ _ ?_
 clear hK K
 refine done_ (by kernel_rfl) ?_
 have BR8:=Lib.hid (put5 BR6.out (.int .i64 (setV X (⟨#[110,111,116,101,115]⟩:ByteArray) Y).f0) (.int .i64 (setV X (⟨#[110,111,116,101,115]⟩:ByteArray) Y).f1) (.string (setV X (⟨#[110,111,116,101,115]⟩:ByteArray) Y).f2) (.slice D3 (setV X (⟨#[110,111,116,101,115]⟩:ByteArray) Y).f3.length r3) (.slice D4 (setV X (⟨#[110,111,116,101,115]⟩:ByteArray) Y).f4.length r4))
 have HC:=Lib.hid ((((chg_put w6 g1 0 (.int .i64 (setV X (⟨#[110,111,116,101,115]⟩:ByteArray) Y).f0)).trans (chg_put _ g1 1 (.int .i64 (setV X (⟨#[110,111,116,101,115]⟩:ByteArray) Y).f1))).trans (chg_put _ g1 2 (.string (setV X (⟨#[110,111,116,101,115]⟩:ByteArray) Y).f2))).trans (chg_put _ g1 3 (.slice D3 (setV X (⟨#[110,111,116,101,115]⟩:ByteArray) Y).f3.length r3)) |>.trans (chg_put _ g1 4 (.slice D4 (setV X (⟨#[110,111,116,101,115]⟩:ByteArray) Y).f4.length r4)))
 generalize hV:setV X (⟨#[110,111,116,101,115]⟩:ByteArray) Y=V at *
 have HV:=Lib.hid hV
 clear hV
 have h1w:g1<w.heap.size:=blk_lt BR.out
 obtain ⟨ao0,ao1,ao2,ao3,ao4⟩:=cells5 BR8.out
 obtain ⟨ap0,ap1,ap2,ap3,ap4⟩:=free5 BR8.out
 go_wp2
 obtain rfl:=HV.out
 exact bodyPost_ret (v:=.agg #[.int .i64 (setV X (⟨#[110,111,116,101,115]⟩:ByteArray) Y).f0,.int .i64 (setV X (⟨#[110,111,116,101,115]⟩:ByteArray) Y).f1,.string (setV X (⟨#[110,111,116,101,115]⟩:ByteArray) Y).f2,.slice D3 (setV X (⟨#[110,111,116,101,115]⟩:ByteArray) Y).f3.length r3,.slice D4 (setV X (⟨#[110,111,116,101,115]⟩:ByteArray) Y).f4.length r4]) (by simp [results,Tryz.results20,go_sem,ao0,ao1,ao2,ao3,ao4,ap0,ap1,ap2,ap3,ap4]) rfl
  ⟨_,_,gs,rfl,Top_chg (S:=fun q=>q=g1) HT6.out HC.out (fun q hq e=>by have:=HF6.out q hq; omega),fun q hq=>by have h1:=HF6.out q hq; have h2:=HB.out.size; omega,below_chg (S:=fun q=>q=g1) (HB.out.trans (HW6.out.mono HB.out.size)) (Nat.le_trans HB.out.size HW6.out.size) HC.out (fun q e=>e ▸ hf1)⟩
theorem fullTree_zero {w0:World} {os:List AV}:CE ⟨w0,fun b _=>b<w0.heap.size,[]⟩ (bodyPost Tryz.prog Tryz.f20 fun e w'=>Made w0 ⟨0,0,⟨#[]⟩,[],[]⟩ e w') .ret ⟨25,[(2,.ptr 1 0)],[os,[.val (.int .i64 0),.val (.int .i64 0),.val (.string ⟨#[]⟩),.row [] .nil,.row [] .nil]],[]⟩:=by
 intro E a w hI
 obtain ⟨g1,us1,ty1,p2,q1,b1,r0⟩:=hI.box_at (d:=2) (i:=1) rfl rfl
 have hB0:Below w0.heap.size w0 w:=⟨hI.os,hI.tape,hI.output,hI.size,fun k hk=>hI.block k hk (by simp)⟩
 obtain ⟨x0,y0,rfl,e0,r1⟩:=reps_cons r0
 obtain ⟨x1,y1,rfl,e1,r2⟩:=reps_cons r1
 obtain ⟨x2,y2,rfl,e2,r3⟩:=reps_cons r2
 obtain ⟨x3,y3,rfl,e3,r4⟩:=reps_cons r3
 obtain ⟨x4,y4,rfl,e4,r5⟩:=reps_cons r4
 obtain rfl:=reps_nil r5
 obtain rfl:=(rep_val e0).1
 obtain rfl:=(rep_val e1).1
 obtain rfl:=(rep_val e2).1
 have hx3:x3=.slice none 0 0:=by generalize x3=z at e3; cases e3 with|nil=>rfl|empty A c tag ht=>exact absurd rfl ht|row g o c sz elems us tag ht=>exact absurd rfl ht
 have hx4:x4=.slice none 0 0:=by generalize x4=z at e4; cases e4 with|nil=>rfl|empty A c tag ht=>exact absurd rfl ht|row g o c sz elems us tag ht=>exact absurd rfl ht
 subst hx3 hx4
 have htz:=hI.tsz; have hdf:=hI.defers; clear hI e0 e1 e2 e3 e4 r1 r2 r3 r4 q1 r5 r0
 obtain ⟨⟨tm⟩,df⟩:=a
 obtain rfl:df=[]:=hdf
 replace htz:tm.length=25:=htz
 obtain ⟨u0,tm0,rfl,hz0⟩:=cons_of htz
 obtain ⟨u1,tm1,rfl,hz1⟩:=cons_of hz0
 obtain ⟨u2,tm2,rfl,hz2⟩:=cons_of hz1
 obtain ⟨u3,tm3,rfl,hz3⟩:=cons_of hz2
 obtain ⟨u4,tm4,rfl,hz4⟩:=cons_of hz3
 obtain ⟨u5,tm5,rfl,hz5⟩:=cons_of hz4
 obtain ⟨u6,tm6,rfl,hz6⟩:=cons_of hz5
 obtain ⟨u7,tm7,rfl,hz7⟩:=cons_of hz6
 obtain ⟨u8,tm8,rfl,hz8⟩:=cons_of hz7
 obtain ⟨u9,tm9,rfl,hz9⟩:=cons_of hz8
 obtain ⟨u10,tm10,rfl,hz10⟩:=cons_of hz9
 obtain ⟨u11,tm11,rfl,hz11⟩:=cons_of hz10
 obtain ⟨u12,tm12,rfl,hz12⟩:=cons_of hz11
 obtain ⟨u13,tm13,rfl,hz13⟩:=cons_of hz12
 obtain ⟨u14,tm14,rfl,hz14⟩:=cons_of hz13
 obtain ⟨u15,tm15,rfl,hz15⟩:=cons_of hz14
 obtain ⟨u16,tm16,rfl,hz16⟩:=cons_of hz15
 obtain ⟨u17,tm17,rfl,hz17⟩:=cons_of hz16
 obtain ⟨u18,tm18,rfl,hz18⟩:=cons_of hz17
 obtain ⟨u19,tm19,rfl,hz19⟩:=cons_of hz18
 obtain ⟨u20,tm20,rfl,hz20⟩:=cons_of hz19
 obtain ⟨u21,tm21,rfl,hz21⟩:=cons_of hz20
 obtain ⟨u22,tm22,rfl,hz22⟩:=cons_of hz21
 obtain ⟨u23,tm23,rfl,hz23⟩:=cons_of hz22
 obtain ⟨u24,tm24,rfl,hz24⟩:=cons_of hz23
 obtain rfl:=List.eq_nil_of_length_eq_zero hz24
 obtain rfl:u2=_:=Option.some.inj p2
 obtain ⟨ao0,ao1,ao2,ao3,ao4⟩:=cells5 b1
 obtain ⟨ap0,ap1,ap2,ap3,ap4⟩:=free5 b1
 have hu:=Tryz.underlying32
 exact ⟨rfl,.agg #[.int .i64 0,.int .i64 0,.string ⟨#[]⟩,.slice none 0 0,.slice none 0 0],by simp [results,Tryz.results20,go_sem,ao0,ao1,ao2,ao3,ao4,ap0,ap1,ap2,ap3,ap4],_,_,[],rfl,Top_zero w,fun q hq=>by simp [topFp,Value.ownBlock] at hq,hB0⟩
end Go.Proofs.YtdlhidjphaaklaaGreat.V
end
section
namespace Go.Proofs.YtdlhidjphaaklaaGreat.V
open Go Go.RowKit Go.Proofs.YtdlhidjphaaklaaGreat Go.Proofs.YtdlhidjphaaklaaGreat.P Go.Proofs.YtdlhidjphaaklaaGreatW Go.Proofs.YtdlhidjphaaklaaGreat.H
set_option maxRecDepth 100000
attribute [local irreducible] thenQ blockQ AWP AOps FinQ Draw One PrintWords.bt CK CE
set_option maxHeartbeats 8000000 in
theorem impl_FullTree_made {k:Nat} {a0_0:ByteArray} {a0_1:ByteArray} {a0_2:Int} {a0_3:Int} {l0_4:List (S61)} {a0_5:Int} {a0_6:Int} {a0_7:Int} {a0_8:Int} {l0_9:List (S124)} {r:_} (H:impl_FullTree.f k a0_0 a0_1 a0_2 a0_3 l0_4 a0_5 a0_6 a0_7 a0_8 l0_9=some r) {w:World} {vs:List Value} (hv:Reps (fun b _=>b<w.heap.size) [] w [.agg [.val (.string a0_0),.val (.string a0_1),.val (.int .i64 a0_2),.val (.int .i64 a0_3),.row (l0_4.map (c61)) .no,.val (.int .i64 a0_5),.val (.int .i64 a0_6),.val (.int .i64 a0_7),.val (.int .i64 a0_8),.row (l0_9.map (c124)) .no]] vs):Calls Tryz.prog 20 vs.toArray w fun e w'=>Made w ⟨r.1,r.2.1,r.2.2.1,r.2.2.2.1,r.2.2.2.2⟩ e w':=by
 refine calls_ck (n:=25) (code:=bo Tryz.f20) Tryz.func20 rfl rfl rfl rfl hv ?_
 unfold impl_FullTree.f at H
 repeat' first
  |(refine one_id ?_; first
   |refine s_move rfl ?_
   |refine s_load rfl rfl rfl ?_
   |refine s_fldb rfl ?_
   |refine s_zsub rfl rfl ?_
   |refine s_add64 rfl rfl ?_
   |refine s_sub64 rfl rfl ?_
   |refine s_bin rfl rfl rfl ?_
   |refine s_assign rfl ?_
   |refine s_pick rfl rfl ?_
   |refine s_loadr rfl rfl rfl ?_
   |refine s_fldr rfl ?_
   |refine s_not rfl ?_
   |refine s_lens rfl ?_
   |refine s_lenm rfl ?_
   |(refine s_bt rfl rfl ?_ ?_ ?_; (focus (first|assumption|decide|omega)); (focus (first|assumption|decide|omega)))
   |refine s_conv rfl ?_
   |refine s_tostrl rfl ?_
   |refine s_lit rfl rfl rfl rfl ?_
   |refine s_build rfl ?_
   |refine s_neg rfl ?_
   |refine s_rune rfl ?_
   |(refine s_substr rfl rfl rfl ?_ ?_ ?_ ?_; (focus (first|assumption|decide|omega)); (focus (first|assumption|decide|omega)); (focus (first|assumption|decide|omega)))
   |(refine s_cat rfl rfl ?_ ?_; (focus (first|assumption|omega)))
   |(have hb:=Option.bind_eq_some_iff.1 H; clear H; obtain ⟨t,hA,H⟩:=hb; refine s_call rfl (by first|exact impl_OrderOk_fn hA|exact impl_PaceTree_fn hA|exact impl_Set_fn hA|exact impl_commonTree_fn hA|exact impl_metricsTree_fn hA|exact impl_notesTree_fn hA) (by first|rfl|(simp only [L25_eq,L32_eq,c25_eq,c32_eq]; rfl)|(simp only [List.map_cons,List.map_nil,L25_eq,L32_eq,c25_eq,c32_eq]; rfl)) rfl rfl rfl ?_)
   )
  |(refine q_id ?_; first
   |refine q_alloc rfl rfl rfl rfl rfl ?_
   |refine q_box rfl rfl rfl rfl rfl rfl rfl ?_
   |refine q_one rfl rfl rfl rfl rfl ?_
   |refine q_nil rfl ?_
   |refine q_store rfl rfl rfl rfl rfl rfl rfl rfl rfl rfl ?_
   |(refine q_run rfl rfl rfl rfl ?_ rfl rfl ?_; focus (first|with_reducible rfl|(simp only [Bool.not_true]; done)|(simp only [Bool.not_false]; done)))
   |(refine q_skip rfl rfl rfl rfl ?_ rfl rfl ?_; focus (first|with_reducible rfl|(simp only [Bool.not_true]; done)|(simp only [Bool.not_false]; done)))
   |refine q_dead rfl rfl rfl rfl rfl rfl ?_
   )
  |(refine w_id ?_; first
   |refine w_seq rfl ?_
   |refine w_region rfl ?_
   |refine w_block rfl ?_
   |refine w_ret rfl ?_
   |refine w_skip rfl ?_
   |refine w_exit rfl ?_
   |(refine w_true rfl rfl ?_ ?_; focus (first|with_reducible rfl|(simp only [Bool.not_true]; done)|(simp only [Bool.not_false]; done)))
   |(refine w_false rfl rfl ?_ ?_; focus (first|with_reducible rfl|(simp only [Bool.not_true]; done)|(simp only [Bool.not_false]; done)))
   |refine w_draw (id:=4) 5 [] rfl (by kernel_rfl) rfl ?_
   |refine w_draw (id:=5) 5 [] rfl (by kernel_rfl) rfl ?_
   |refine w_draw (id:=6) 5 [] rfl (by kernel_rfl) rfl ?_
   )
  |(refine t_id ?_; first
   |refine t_norm ?_
   |refine t_exit ?_
   |refine t_ret ?_
   )
  |(refine b_id ?_; first
   |refine b_here ?_
   |refine b_norm ?_
   |refine b_ret ?_
   )
  |(refine e_id ?_; first
   |refine e_alloc rfl rfl rfl rfl rfl rfl ?_
   |refine e_one rfl rfl rfl rfl rfl ?_
   |refine e_end rfl ?_
   |(refine e_run rfl rfl rfl rfl ?_ rfl rfl ?_; focus (first|with_reducible rfl|(simp only [Bool.not_true]; done)|(simp only [Bool.not_false]; done)))
   |(refine e_skip rfl rfl rfl rfl ?_ rfl rfl ?_; focus (first|with_reducible rfl|(simp only [Bool.not_true]; done)|(simp only [Bool.not_false]; done)))
   |refine e_dead rfl rfl rfl rfl rfl rfl ?_
   )
  |(simp (disch:=assumption) only [decide_eq_true,decide_eq_false])
  |refine ck_seq (c:=cr (cr (cr (cr (bo Tryz.f20))))) rfl ?_
  |refine ck_seq (c:=cr (cr (cr (bo Tryz.f20)))) rfl ?_
  |refine ck_seq (c:=cr (cr (bo Tryz.f20))) rfl ?_
  |refine ck_seq (c:=cr (bo Tryz.f20)) rfl ?_
  |refine ck_seq (c:=bo Tryz.f20) rfl ?_
  |(obtain rfl:=Option.some.inj H; first|exact fqb2 (.inr rfl) rfl (by first|exact res_tmp rfl|exact res_cell rfl rfl rfl) (by first|exact res_tmp rfl|exact res_cell rfl rfl rfl) rfl rfl rfl rfl rfl|exact fqb3 (.inr rfl) rfl (by first|exact res_tmp rfl|exact res_cell rfl rfl rfl) (by first|exact res_tmp rfl|exact res_cell rfl rfl rfl) (by first|exact res_tmp rfl|exact res_cell rfl rfl rfl) rfl rfl rfl rfl rfl rfl|exact fqb4 (.inr rfl) rfl (by first|exact res_tmp rfl|exact res_cell rfl rfl rfl) (by first|exact res_tmp rfl|exact res_cell rfl rfl rfl) (by first|exact res_tmp rfl|exact res_cell rfl rfl rfl) (by first|exact res_tmp rfl|exact res_cell rfl rfl rfl) rfl rfl rfl rfl rfl rfl rfl|exact fqb0 (.inr rfl) rfl rfl rfl rfl|exact fq1b (.inr rfl) rfl (by first|exact res_tmp rfl|exact res_cell rfl rfl rfl) rfl rfl rfl (.inl rfl)|exact fq1b (.inr rfl) rfl (by first|exact res_tmp rfl|exact res_cell rfl rfl rfl) rfl rfl rfl (.inr ⟨_,_,rfl,by decide⟩)|(simp only [bne_dec,beq_dec]; first|exact fqb2 (.inr rfl) rfl (by first|exact res_tmp rfl|exact res_cell rfl rfl rfl) (by first|exact res_tmp rfl|exact res_cell rfl rfl rfl) rfl rfl rfl rfl rfl|exact fqb3 (.inr rfl) rfl (by first|exact res_tmp rfl|exact res_cell rfl rfl rfl) (by first|exact res_tmp rfl|exact res_cell rfl rfl rfl) (by first|exact res_tmp rfl|exact res_cell rfl rfl rfl) rfl rfl rfl rfl rfl rfl|exact fqb4 (.inr rfl) rfl (by first|exact res_tmp rfl|exact res_cell rfl rfl rfl) (by first|exact res_tmp rfl|exact res_cell rfl rfl rfl) (by first|exact res_tmp rfl|exact res_cell rfl rfl rfl) (by first|exact res_tmp rfl|exact res_cell rfl rfl rfl) rfl rfl rfl rfl rfl rfl rfl|exact fqb0 (.inr rfl) rfl rfl rfl rfl|exact fq1b (.inr rfl) rfl (by first|exact res_tmp rfl|exact res_cell rfl rfl rfl) rfl rfl rfl (.inl rfl)|exact fq1b (.inr rfl) rfl (by first|exact res_tmp rfl|exact res_cell rfl rfl rfl) rfl rfl rfl (.inr ⟨_,_,rfl,by decide⟩) )|exact fq1 (.inr rfl) rfl (by first|exact res_tmp rfl|exact res_cell rfl rfl rfl) rfl rfl|(simp only [bne_dec,beq_dec]; exact fq1 (.inr rfl) rfl (by first|exact res_tmp rfl|exact res_cell rfl rfl rfl) rfl rfl))
  |exact W1.same _
  |exact W1.no _ _
  |exact W1.any _ rfl
  |exact sub3_nil
  |(refine sub3_cons rfl ?_ ?_)
  |(simp only [lit_list,wrapK_i64,wrapK_i32,wrapK_u8,wrap64_u8,Int.reduceToNat,Int.toNat_natCast])
  |(simp (disch:=assumption) only [if_pos,if_neg] at H)
  |(simp only [Option.bind_some] at H)
  |(simp only [beq_dec,bne_dec,decide_eq_true_eq] at H)
  |(have hh:=ite_none_ H; clear H; obtain ⟨hc,H⟩:=hh)
  |(have hh:=ite_none2_ H; clear H; obtain ⟨hc,H⟩:=hh)
  |(refine (ite_some_ H).elim (fun hh=>?_) (fun hh=>?_)<;>clear H<;>obtain ⟨hc,H⟩:=hh<;>first|(cases H; done)|(cases hc; done)|(exact absurd rfl hc)|(subst hc; done)|rw [decide_eq_true hc]|rw [decide_eq_false hc]|rw [@decide_eq_true _ (_) hc]|rw [@decide_eq_false _ (_) hc]|subst hc|(obtain rfl:=Bool.eq_false_iff.2 hc)|rw [hc]|rw [Bool.eq_false_iff.2 hc])
 ·have hb:=Option.bind_eq_some_iff.1 H; clear H; obtain ⟨y,hN,H⟩:=hb
  have hb:=Option.bind_eq_some_iff.1 H; clear H; obtain ⟨z,hS,H⟩:=hb
  obtain rfl:=Option.some.inj H
  unfold impl_Set.f at hS
  split at hS
  ·rename_i hc
   obtain rfl:=Option.some.inj hS
   exact ck_less (less_cons rfl (less_cons rfl (less_cons rfl less_nil))) rfl (fullTree_last ⟨_,_,_,_,_⟩ ⟨y.1,y.2.1,y.2.2.1,y.2.2.2.1,y.2.2.2.2⟩ hN hc.1 hc.2)
  ·cases hS
 ·obtain rfl:=Option.some.inj H
  exact ce_less (less_cons rfl less_nil) rfl fullTree_zero
end Go.Proofs.YtdlhidjphaaklaaGreat.V
end
section
namespace Go.Proofs.YtdlhidjphaaklaaGreat.P
end Go.Proofs.YtdlhidjphaaklaaGreat.P
end
section
namespace Go.Proofs.YtdlhidjphaaklaaGreat.M
open Go.RowKit Go.Proofs.YtdlhidjphaaklaaGreat.P Go.Proofs.YtdlhidjphaaklaaGreatW.PrintWords
theorem l1In_eq (n a b : Int) : spec_l1In.f n a b = some (inB n a b) := by
  unfold spec_l1In.f inB
  by_cases h : n ≥ a
  · have : a ≤ n := h
    simp [this]
  · have : ¬ a ≤ n := h
    simp [this]
theorem from_eq (n a b : Int) : impl_from.f n a b = some (inB n a b) := l1In_eq n a b
theorem in_rng {n a b : Int} (h : inB n a b = true) : a ≤ n ∧ n ≤ b := by
  unfold inB at h
  simp only [Bool.and_eq_true, decide_eq_true_eq] at h
  exact h
theorem tdiv_n {n : Int} (h : 0 ≤ n) (c : Int) : Int.tdiv n c = n / c := Int.tdiv_eq_ediv_of_nonneg h
theorem tmod_n {n : Int} (h : 0 ≤ n) (c : Int) : Int.tmod n c = n % c := Int.tmod_eq_emod_of_nonneg h
end Go.Proofs.YtdlhidjphaaklaaGreat.M
end
section
namespace Go.Proofs.YtdlhidjphaaklaaGreat.M
open Go.RowKit Go.Proofs.YtdlhidjphaaklaaGreat.P Go.Proofs.YtdlhidjphaaklaaGreatW.PrintWords
theorem spec_textOk (s : ByteArray) (hs : s.size ≤ 140737488351232) (k : Nat) (hk : s.size < k) : spec_TextOk.f k s = some (textOk s) := by
  unfold spec_TextOk.f textOk
  refine scan0 (g := fun k i => spec_TextOk.l0 k s i) (fun k => ?_) (fun k i hi => ?_) k hk
  · simp only [spec_TextOk.l0]
    rw [if_neg (by omega)]
  · simp only [spec_TextOk.l0]
    rw [if_pos (by omega), if_pos (by omega), wsucc (by omega)]
    unfold textB
    by_cases h : bt s i < 32
    · have h1 : ¬ 32 ≤ bt s i := by omega
      rw [if_pos h]; simp [h1]
    · have h1 : 32 ≤ bt s i := by omega
      rw [if_neg h]
      by_cases h2 : bt s i > 126
      · have h3 : ¬ bt s i ≤ 126 := by omega
        rw [if_pos h2]; simp [h3]
      · have h3 : bt s i ≤ 126 := by omega
        rw [if_neg h2]; simp [h1, h3]
theorem impl_textOk (s : ByteArray) (hs : s.size ≤ 140737488351232) (k : Nat) (hk : s.size < k) : impl_TextOk.f k s = some (textOk s) := by
  unfold impl_TextOk.f textOk
  refine scan0 (g := fun k i => impl_TextOk.l0 k s (s.size : Int) i) (fun k => ?_) (fun k i hi => ?_) k hk
  · simp only [impl_TextOk.l0]
    rw [if_neg (by omega)]
  · simp only [impl_TextOk.l0]
    have hb := bt_range s i
    rw [if_pos (by omega), if_pos (by omega), if_pos (by omega), wsucc (by omega), w64 (by omega) (by omega), from_eq, Option.bind_some]
    rfl
end Go.Proofs.YtdlhidjphaaklaaGreat.M
end
section
namespace Go.Proofs.YtdlhidjphaaklaaGreat.P
open Go.RowKit Go.Proofs.YtdlhidjphaaklaaGreatW.PrintWords Go.Proofs.YtdlhidjphaaklaaGreatW.PrintLast Go.Proofs.YtdlhidjphaaklaaGreatW.PrintMore
attribute [local go_sem] max2_int min2_int max_two min_two max_three min_three max_four min_four
noncomputable section
def laws_toMetric.f (a0_0:ByteArray) (a0_1:Int) (a0_2:Int):Option (ByteArray × Int × Int):=some (a0_0,a0_1,a0_2)
set_option maxHeartbeats 8000000 in
set_option maxRecDepth 100000 in
theorem laws_toMetric.calls (a0_0:ByteArray) (a0_1:Int) (a0_2:Int) (r1:ByteArray) (r2:Int) (r3:Int) (w:World) (h:laws_toMetric.f a0_0 a0_1 a0_2=some (r1,r2,r3)) :
  Calls Tryz.prog 118 #[.agg #[.string a0_0,.int .i64 a0_1,.int .i64 a0_2]] w fun e w'=>e=.returned (.agg #[.string r1,.int .i64 r2,.int .i64 r3])∧Below w.heap.size w w':=by
 have hu113:=Tryz.underlying113
 have hu61:=Tryz.underlying61
 have HB:=Aside0.mk (Below.refl w.heap.size w)
 have H:(some (a0_0,a0_1,a0_2))=some (r1,r2,r3):=h
 clear h
 simp only [Option.some.injEq,Prod.mk.injEq] at H
 obtain ⟨rfl,rfl,rfl⟩:=H
 go_enter Tryz.func118,Tryz.ntmps118
 go_wp2_with (first|((with_reducible refine gate_dst (N:=1) rfl ?_); refine box_event ?hg (N:=1) ?hd (cs:=#[.string a0_0,.int .i64 a0_1,.int .i64 a0_2]) (t:=113) ?hr ?_; (case hd=>rfl); (case hg=>rfl); (case hr=>first|(go_simp; done)|(go_simp; rfl)); intro gb782 hg w2 hbox hb; have n0_:=Aside0.mk (below_step (by repeat (first|(with_reducible first|exact HB.out|apply below_alloc|apply pw_below_drewN|apply below_drew1)|exact HB.out)) hb); have n1_:=Aside0.mk (hbox); have n2_:=Aside0.mk ((by rw [hg]; exact (below_size (by repeat (first|(with_reducible first|exact HB.out|apply below_alloc|apply pw_below_drewN|apply below_drew1)|exact HB.out))):w.heap.size≤gb782)); have n3_:=Aside0.mk ((by rw [hg]; exact (below_size (by repeat (first|(with_reducible first|exact HB.out|apply below_alloc|apply pw_below_drewN|apply below_drew1)|exact HB.out))):w.heap.size≤gb782)); clear HB; have HB:=n0_; have BK782:=n1_; have GW782:=n2_; have GE782:=n3_; clear n0_ n1_ n2_ n3_; clear hb hbox hg)|((with_reducible refine gate_dst (N:=2) rfl ?_); refine box_event ?hg (N:=2) ?hd (cs:=#[.string (⟨#[]⟩:ByteArray),.int .i64 0,.int .i64 0]) (t:=61) ?hr ?_; (case hd=>rfl); (case hg=>rfl); (case hr=>first|(go_simp; done)|(go_simp; rfl)); intro gb783 hg w3 hbox hb; have n0_:=Aside0.mk (blk_below (g:=gb782) (o:=.cells #[.string a0_0,.int .i64 a0_1,.int .i64 a0_2] 113 (0,0)) (by (with_reducible repeat (first|refine blk_drewN ?_ _|refine blk_drew ?_|refine blk_alloc ?_ _)); exact BK782.out) hb); have n1_:=Aside0.mk (below_step (by repeat (first|(with_reducible first|exact HB.out|apply below_alloc|apply pw_below_drewN|apply below_drew1|refine below_set ?_ GE782.out)|exact HB.out)) hb); have n2_:=Aside0.mk (hbox); have n3_:=Aside0.mk ((by rw [hg]; exact (below_size (by repeat (first|(with_reducible first|exact HB.out|apply below_alloc|apply pw_below_drewN|apply below_drew1|refine below_set ?_ GE782.out)|exact HB.out))):w.heap.size≤gb783)); have n4_:=Aside0.mk ((by rw [hg]; exact (below_size (by repeat (first|(with_reducible first|exact HB.out|apply below_alloc|apply pw_below_drewN|apply below_drew1|refine below_set ?_ GE782.out)|exact HB.out))):w.heap.size≤gb783)); have n5_:=Aside0.mk ((by rw [hg]; exact Nat.ne_of_lt (blk_lt (g:=gb782) (o:=.cells #[.string a0_0,.int .i64 a0_1,.int .i64 a0_2] 113 (0,0)) (by (with_reducible repeat (first|refine blk_drewN ?_ _|refine blk_drew ?_|refine blk_alloc ?_ _)); exact BK782.out)):gb782 ≠ gb783)); have n6_:=Aside0.mk ((by rw [hg]; exact Nat.ne_of_gt (blk_lt (g:=gb782) (o:=.cells #[.string a0_0,.int .i64 a0_1,.int .i64 a0_2] 113 (0,0)) (by (with_reducible repeat (first|refine blk_drewN ?_ _|refine blk_drew ?_|refine blk_alloc ?_ _)); exact BK782.out)):gb783 ≠ gb782)); clear BK782; clear HB; have BK782:=n0_; have HB:=n1_; have BK783:=n2_; have GW783:=n3_; have GE783:=n4_; have NB782_783:=n5_; have NB783_782:=n6_; clear n0_ n1_ n2_ n3_ n4_ n5_ n6_; clear hb hbox hg)|((with_reducible refine gate_dst (N:=3) rfl ?_); refine box_event ?hg (N:=3) ?hd (cs:=#[.string (⟨#[]⟩:ByteArray),.int .i64 0,.int .i64 0]) (t:=61) ?hr ?_; (case hd=>rfl); (case hg=>rfl); (case hr=>first|(go_simp; done)|(go_simp; rfl)); intro gb784 hg w4 hbox hb; have n0_:=Aside0.mk (blk_below (g:=gb782) (o:=.cells #[.string a0_0,.int .i64 a0_1,.int .i64 a0_2] 113 (0,0)) (by (with_reducible repeat (first|refine blk_drewN ?_ _|refine blk_drew ?_|refine blk_alloc ?_ _)); exact BK782.out) hb); have n1_:=Aside0.mk (blk_below (g:=gb783) (o:=.cells #[.string (⟨#[]⟩:ByteArray),.int .i64 0,.int .i64 0] 61 (0,0)) (by (with_reducible repeat (first|refine blk_drewN ?_ _|refine blk_drew ?_|refine blk_alloc ?_ _)); exact BK783.out) hb); have n2_:=Aside0.mk (below_step (by repeat (first|(with_reducible first|exact HB.out|apply below_alloc|apply pw_below_drewN|apply below_drew1|refine below_set ?_ GE782.out|refine below_set ?_ GE783.out)|exact HB.out)) hb); have n3_:=Aside0.mk (hbox); have n4_:=Aside0.mk ((by rw [hg]; exact (below_size (by repeat (first|(with_reducible first|exact HB.out|apply below_alloc|apply pw_below_drewN|apply below_drew1|refine below_set ?_ GE782.out|refine below_set ?_ GE783.out)|exact HB.out))):w.heap.size≤gb784)); have n5_:=Aside0.mk ((by rw [hg]; exact (below_size (by repeat (first|(with_reducible first|exact HB.out|apply below_alloc|apply pw_below_drewN|apply below_drew1|refine below_set ?_ GE782.out|refine below_set ?_ GE783.out)|exact HB.out))):w.heap.size≤gb784)); have n6_:=Aside0.mk ((by rw [hg]; exact Nat.ne_of_lt (blk_lt (g:=gb782) (o:=.cells #[.string a0_0,.int .i64 a0_1,.int .i64 a0_2] 113 (0,0)) (by (with_reducible repeat (first|refine blk_drewN ?_ _|refine blk_drew ?_|refine blk_alloc ?_ _)); exact BK782.out)):gb782 ≠ gb784)); have n7_:=Aside0.mk ((by rw [hg]; exact Nat.ne_of_gt (blk_lt (g:=gb782) (o:=.cells #[.string a0_0,.int .i64 a0_1,.int .i64 a0_2] 113 (0,0)) (by (with_reducible repeat (first|refine blk_drewN ?_ _|refine blk_drew ?_|refine blk_alloc ?_ _)); exact BK782.out)):gb784 ≠ gb782)); have n8_:=Aside0.mk ((by rw [hg]; exact Nat.ne_of_lt (blk_lt (g:=gb783) (o:=.cells #[.string (⟨#[]⟩:ByteArray),.int .i64 0,.int .i64 0] 61 (0,0)) (by (with_reducible repeat (first|refine blk_drewN ?_ _|refine blk_drew ?_|refine blk_alloc ?_ _)); exact BK783.out)):gb783 ≠ gb784)); have n9_:=Aside0.mk ((by rw [hg]; exact Nat.ne_of_gt (blk_lt (g:=gb783) (o:=.cells #[.string (⟨#[]⟩:ByteArray),.int .i64 0,.int .i64 0] 61 (0,0)) (by (with_reducible repeat (first|refine blk_drewN ?_ _|refine blk_drew ?_|refine blk_alloc ?_ _)); exact BK783.out)):gb784 ≠ gb783)); clear BK782; clear BK783; clear HB; have BK782:=n0_; have BK783:=n1_; have HB:=n2_; have BK784:=n3_; have GW784:=n4_; have GE784:=n5_; have NB782_784:=n6_; have NB784_782:=n7_; have NB783_784:=n8_; have NB784_783:=n9_; clear n0_ n1_ n2_ n3_ n4_ n5_ n6_ n7_ n8_ n9_; clear hb hbox hg; have hnb5:=NB782_783.out; have hnc5:=NB783_782.out; have hnb6:=NB782_784.out; have hnc6:=NB784_782.out; have hcz7_0:w4.cell? ⟨gb782,0,none⟩=some (.string a0_0):=(blk_cell BK782.out 0).trans rfl; have hcz7_1:w4.cell? ⟨gb782,1,none⟩=some (.int .i64 a0_1):=(blk_cell BK782.out 1).trans rfl; have hcz7_2:w4.cell? ⟨gb782,2,none⟩=some (.int .i64 a0_2):=(blk_cell BK782.out 2).trans rfl; have hfz7_0:=blk_frozen BK782.out 0; have hfz7_1:=blk_frozen BK782.out 1; have hfz7_2:=blk_frozen BK782.out 2; have hnb8:=NB784_783.out; have hnc8:=NB783_784.out; have hcz9_0:w4.cell? ⟨gb784,0,none⟩=some (.string (⟨#[]⟩:ByteArray)):=(blk_cell BK784.out 0).trans rfl; have hcz9_1:w4.cell? ⟨gb784,1,none⟩=some (.int .i64 0):=(blk_cell BK784.out 1).trans rfl; have hcz9_2:w4.cell? ⟨gb784,2,none⟩=some (.int .i64 0):=(blk_cell BK784.out 2).trans rfl; have hfz9_0:=blk_frozen BK784.out 0; have hfz9_1:=blk_frozen BK784.out 1; have hfz9_2:=blk_frozen BK784.out 2; have hcz10_0:w4.cell? ⟨gb783,0,none⟩=some (.string (⟨#[]⟩:ByteArray)):=(blk_cell BK783.out 0).trans rfl; have hcz10_1:w4.cell? ⟨gb783,1,none⟩=some (.int .i64 0):=(blk_cell BK783.out 1).trans rfl; have hcz10_2:w4.cell? ⟨gb783,2,none⟩=some (.int .i64 0):=(blk_cell BK783.out 2).trans rfl; have hfz10_0:=blk_frozen BK783.out 0; have hfz10_1:=blk_frozen BK783.out 1; have hfz10_2:=blk_frozen BK783.out 2))
 refine bodyPost_ret (results_cell_row rfl _ _ gb783 61 #[.string a0_0,.int .i64 a0_1,.int .i64 a0_2] (0,0) _ rfl (by (with_reducible repeat (first|refine blk_drewN ?_ _|refine blk_drew ?_|refine blk_alloc ?_ _)); refine blk_put (cs:=#[.string a0_0,.int .i64 a0_1,.int .i64 0]) ?_ 2 _ rfl; (with_reducible repeat (first|refine blk_drewN ?_ _|refine blk_drew ?_|refine blk_alloc ?_ _)); refine blk_put (cs:=#[.string a0_0,.int .i64 0,.int .i64 0]) ?_ 1 _ rfl; (with_reducible repeat (first|refine blk_drewN ?_ _|refine blk_drew ?_|refine blk_alloc ?_ _)); refine blk_put (cs:=#[.string (⟨#[]⟩:ByteArray),.int .i64 0,.int .i64 0]) ?_ 0 _ rfl; (with_reducible repeat (first|refine blk_drewN ?_ _|refine blk_drew ?_|refine blk_alloc ?_ _)); refine blk_far ?_ NB783_784.out _; (with_reducible repeat (first|refine blk_drewN ?_ _|refine blk_drew ?_|refine blk_alloc ?_ _)); refine blk_far ?_ NB783_784.out _; (with_reducible repeat (first|refine blk_drewN ?_ _|refine blk_drew ?_|refine blk_alloc ?_ _)); refine blk_far ?_ NB783_784.out _; (with_reducible repeat (first|refine blk_drewN ?_ _|refine blk_drew ?_|refine blk_alloc ?_ _)); exact BK783.out) Tryz.underlying61 rfl (by kernel_rfl)) rfl ?_
 exact ⟨by first|rfl|(simp [errW_none,errW_some]<;>rfl)|(simp [*,errW_none,errW_some]<;>rfl),by repeat (first|(with_reducible first|exact HB.out|apply below_alloc|apply pw_below_drewN|apply below_drew1|refine below_set ?_ GE782.out|refine below_set ?_ GE783.out|refine below_set ?_ GE784.out)|exact HB.out)⟩
def laws_toMetricS.l0:Nat→List (S113)→List (S61)→Int→Option ((List (S61)))
 |0,_,_,_=>none
 |k+1,x0,x3,x4=>if x4<(x0.length:Int) then (if 0≤x4 then ((laws_toMetric.f ((rd_T113 x0 x4).f0) ((rd_T113 x0 x4).f1) ((rd_T113 x0 x4).f2)).bind fun bt789=>(if x4<(x3.length:Int) then (laws_toMetricS.l0 k x0 (x3.set (x4:Int).toNat (⟨bt789.1,bt789.2.1,bt789.2.2⟩:S61)) (wrap64 (x4+1))) else (none))) else (none)) else (some x3)
def laws_toMetricS.f (k:Nat) (l0:List (S113)):Option ((List (S61))):=if 0≤(l0.length:Int) then (if ((l0.length:Int):Int).toNat≤8796093022208 then (laws_toMetricS.l0 k l0 (List.replicate ((l0.length:Int):Int).toNat z61) 0) else (none)) else (none)
set_option maxHeartbeats 8000000 in
set_option maxRecDepth 100000 in
theorem laws_toMetricS.calls (k:Nat) (A0:Option Addr) (c0:Nat) (l0:List (S113)) (r:List (S61)) (w:World) (hr0:Kd.C k113 w A0 l0.length l0) (hc0:l0.length≤c0) (h:laws_toMetricS.f k l0=some r) :
  Calls Tryz.prog 59 #[.slice A0 l0.length c0] w fun e w'=>∃ v0_:Value,e=.returned (v0_)∧Kd.R k61 61 w' w.heap.size (fun _=>True) v0_ r∧Below w.heap.size w w':=by
 have hu113:=Tryz.underlying113
 have hu61:=Tryz.underlying61
 have HR0:=Aside0.mk hr0
 have HC0:=Aside0.mk hc0
 clear hr0 hc0
 have HB:=Aside0.mk (Below.refl w.heap.size w)
 have H:(if 0≤(l0.length:Int) then (if ((l0.length:Int):Int).toNat≤8796093022208 then (laws_toMetricS.l0 k l0 (List.replicate ((l0.length:Int):Int).toNat z61) 0) else (none)) else (none))=some r:=h
 clear h
 by_cases c2:0≤(l0.length:Int)
 ·rw [if_pos c2] at H
  have c2b0:=eq_true c2
  have c2b1:decide (0≤(l0.length:Int))=true:=decide_eq_true c2
  clear c2
  by_cases c3:((l0.length:Int):Int).toNat≤8796093022208
  ·rw [if_pos c3] at H
   have c3b0:=eq_true c3
   have c3b1:decide (((l0.length:Int):Int).toNat≤8796093022208)=true:=decide_eq_true c3
   clear c3
   obtain ⟨y785,hy785⟩:∃ y_:List (S61),y_=(List.replicate ((l0.length:Int):Int).toNat z61):=⟨_,rfl⟩
   replace H:(laws_toMetricS.l0 k l0 y785 0)=some r:=by first|(rw [hy785]; with_reducible exact H)|(have H2_:=(Option.bind_some _ _).symm.trans H; rw [hy785]; with_reducible exact H2_)|(have H2_:=(Option.bind_some _ _).symm.trans H; with_reducible exact H2_)|with_reducible exact H|(rw [hy785]; exact H)|exact H
   have Ny785:=Aside0.mk hy785
   clear hy785
   have H':=Aside0.mk H
   clear H
   go_enter Tryz.func59,Tryz.ntmps59
   go_wp2_with (first|((with_reducible refine gate_dst (N:=7) rfl ?_); refine Kd.R_make k61 _ 61 rfl (N:=7) rfl 27 _ _ rfl (l0.length:Int) rfl rfl Tryz.underlying27 (.agg #[(.string ⟨#[]⟩),(.int .i64 0),(.int .i64 0)]) 32 info61 rfl (by decide) (by omega) z61 (ok:=fun _=>True) (okp:=fun _=>True) (k61_mkM _ _ _ z61 ) (fun _ hk=>hk) trivial (of_decide_eq_true (by first|(with_reducible assumption)|assumption)) (Nat.le_trans (Nat.mul_le_mul_right _ (of_decide_eq_true (by first|(with_reducible assumption)|assumption):(l0.length:Int).toNat≤8796093022208)) (by omega)) (Below.refl _ _) (Nat.le_refl _) ?_; intro v786 w4 ho5 hb hg_ hnew_; clear hg_ hnew_; (first|rw [← Ny785.out] at ho5|(simp only [Int.reduceToNat] at ho5; rw [← Ny785.out] at ho5)); have n0_:=Aside0.mk (Kd.R_lower ho5 (below_size (by repeat (first|(with_reducible first|exact HB.out|apply below_alloc|apply pw_below_drewN|apply below_drew1)|exact HB.out)))); have n1_:=Aside0.mk (below_step (by repeat (first|(with_reducible first|exact HB.out|apply below_alloc|apply pw_below_drewN|apply below_drew1)|exact HB.out)) hb); clear HB; have HO787:=n0_; have HB:=n1_; clear n0_ n1_; clear hb ho5))
   go_loopg [4] k (fun kq v4 w'=>∃ (x3_1:List (S61)) (x4_1:Int),v4=.int .i64 x4_1∧Aside0 (laws_toMetricS.l0 kq l0 x3_1 x4_1=some r)∧Aside0 (kq≤k)∧Aside0 (Kd.R k61 61 w' w.heap.size (fun _=>True) v786 x3_1)∧Aside0 (Below w.heap.size w w'))
   case atStart=>exact ⟨(y785),(0),(by first|rfl|(simp; done)|(simp [*]; done)),H',⟨Nat.le_refl _⟩,⟨by (with_reducible repeat (first|apply Kd.R_alloc|apply Kd.R_drewN|apply Kd.R_drew)); exact HO787.out⟩,⟨by repeat (first|(with_reducible first|exact HB.out|apply below_alloc|apply pw_below_drewN|apply below_drew1)|exact HB.out)⟩⟩
   case round =>
    clear H'
    try clear c2
    try clear c2b0
    try clear c2b1
    try clear p2
    try clear c3
    try clear c3b0
    try clear c3b1
    try clear c5
    obtain ⟨x3_1,x4_1,rfl,HA,HK1,HO_3,HB⟩:=hrel
    cases gk with
    |zero=>exact absurd HA.out (by simp [laws_toMetricS.l0])
    |succ k1 =>
     have H:=HA.out
     clear HA
     simp only [laws_toMetricS.l0] at H
     by_cases c6:x4_1<(l0.length:Int)
     ·rw [if_pos c6] at H
      have c6b0:decide (x4_1<(l0.length:Int))=true:=decide_eq_true c6
      clear c6
      by_cases c7:0≤x4_1
      ·rw [if_pos c7] at H
       have c7b0:decide (0≤x4_1)=true:=decide_eq_true c7
       clear c7
       replace H:=Option.bind_eq_some_iff.mp H
       obtain ⟨⟨t789,t790,t791⟩,A80,H⟩:=H
       replace H:(if x4_1<(x3_1.length:Int) then (laws_toMetricS.l0 k1 l0 (x3_1.set (x4_1:Int).toNat (⟨t789,t790,t791⟩:S61)) (wrap64 (x4_1+1))) else (none))=some r:=H
       have A8:=Aside0.mk A80
       clear A80
       by_cases c9:x4_1<(x3_1.length:Int)
       ·rw [if_pos c9] at H
        have c9b0:decide (x4_1<(x3_1.length:Int))=true:=decide_eq_true c9
        clear c9
        obtain ⟨y792,hy792⟩:∃ y_:List (S61),y_=(x3_1.set (x4_1:Int).toNat (⟨t789,t790,t791⟩:S61)):=⟨_,rfl⟩
        replace H:(laws_toMetricS.l0 k1 l0 y792 (wrap64 (x4_1+1)))=some r:=by first|(rw [hy792]; with_reducible exact H)|(have H2_:=(Option.bind_some _ _).symm.trans H; rw [hy792]; with_reducible exact H2_)|(have H2_:=(Option.bind_some _ _).symm.trans H; with_reducible exact H2_)|with_reducible exact H|(rw [hy792]; exact H)|exact H
        have Ny792:=Aside0.mk hy792
        clear hy792
        have H':=Aside0.mk H
        clear H
        have p788:0≤(x4_1:Int):=of_decide_eq_true (by first|(with_reducible assumption)|assumption)
        have q788:x4_1<(l0.length:Int):=of_decide_eq_true (by first|(with_reducible assumption)|assumption)
        obtain ⟨ad788,e788,hx788_0,hx788_1,hx788_2⟩:=at_T113 HR0.out x4_1 p788 q788
        cases e788
        replace hx788_0:=(HB.out.cell (World.block_lt_of_cell? w _ hx788_0)).trans hx788_0
        replace hx788_1:=(HB.out.cell (World.block_lt_of_cell? w _ hx788_1)).trans hx788_1
        replace hx788_2:=(HB.out.cell (World.block_lt_of_cell? w _ hx788_2)).trans hx788_2
        replace p788:=eq_true p788
        replace q788:=eq_true q788
        go_wp2_with (first|((with_reducible refine gate_callee (f:=118) rfl ?_); refine goesL_ (some 20) rfl rfl Tryz.func118 (by kernel_rfl) rfl #[.agg #[.string ((rd_T113 l0 x4_1).f0),.int .i64 ((rd_T113 l0 x4_1).f1),.int .i64 ((rd_T113 l0 x4_1).f2)]] rfl (by (try simp only [List.map_toArray,List.map_cons,List.map_nil]); first|done|rfl|(simp only [List.length_drop,List.length_take]; rfl)) ?_; (with_reducible refine (laws_toMetric.calls ((rd_T113 l0 x4_1).f0) ((rd_T113 l0 x4_1).f1) ((rd_T113 l0 x4_1).f2) t789 t790 t791 _ A8.out).mono ?_); rintro e w11 ⟨rfl,hb⟩; refine ⟨_,rfl,?_⟩; have n0_:=Aside0.mk (Kd.R_below (by (with_reducible repeat (first|apply Kd.R_alloc|apply Kd.R_drewN|apply Kd.R_drew)); exact HO_3.out) hb); have n1_:=Aside0.mk (below_step (by repeat (first|(with_reducible first|exact HB.out|apply below_alloc|apply pw_below_drewN|apply below_drew1)|exact HB.out)) hb); clear HO_3; clear HB; have HO_3:=n0_; have HB:=n1_; clear n0_ n1_; (try clear hb); (try clear hb2); (try clear hk); (try clear hi); have p10:0≤(x4_1:Int):=of_decide_eq_true (by first|(with_reducible assumption)|assumption); have q10:(x4_1:Int)<((x3_1.length:Int):Int):=of_decide_eq_true (by first|(with_reducible assumption)|assumption); obtain ⟨go10,co10,eo10,gb10,gl10,cl10,HG10⟩:=Kd.R_form HO_3.out (by omega); (first|cases eo10|(injection eo10 with ea_ en_ ec_; (first|subst ea_|(injection ea_ with ea_; subst ea_)); subst ec_; clear en_)); have GB10:=Aside0.mk gb10; have GG10:=Aside0.mk HG10; clear gb10 gl10 HG10; obtain ⟨ce10,hcl10,hM10,hcc10,hfr10⟩:=Kd.R_elem HO_3.out z61 (x4_1:Int) p10 q10; obtain rfl:=k61_openM hM10; have hx10_0:w11.cell? ⟨go10,(x4_1:Int).toNat*3,none⟩=some (.string ((rd_T61 x3_1 x4_1).f0)):=hcc10 0 _ rfl; have hx10_1:w11.cell? ⟨go10,(x4_1:Int).toNat*3+1,none⟩=some (.int .i64 ((rd_T61 x3_1 x4_1).f1)):=hcc10 1 _ rfl; have hx10_2:w11.cell? ⟨go10,(x4_1:Int).toNat*3+2,none⟩=some (.int .i64 ((rd_T61 x3_1 x4_1).f2)):=hcc10 2 _ rfl; have hf10_0:w11.frozen? ⟨go10,(x4_1:Int).toNat*3,none⟩=false:=hfr10 0; have hf10_1:w11.frozen? ⟨go10,(x4_1:Int).toNat*3+1,none⟩=false:=hfr10 1; have hf10_2:w11.frozen? ⟨go10,(x4_1:Int).toNat*3+2,none⟩=false:=hfr10 2; clear hcl10 hcc10 hfr10 hM10; replace p10:=eq_true p10; replace q10:=eq_true q10; have HX12:=Aside0.mk (show Kd.R k61 61 w11 w.heap.size (fun _=>True) (.slice (some ⟨go10,0,none⟩) x3_1.length co10) x3_1 from (by (with_reducible repeat (first|apply Kd.R_alloc|apply Kd.R_drewN|apply Kd.R_drew)); exact HO_3.out)); obtain ⟨ce12,hcl12,hM12,hcc12,hfr12⟩:=Kd.R_elem HX12.out z61 (x4_1:Int) (of_decide_eq_true (by first|(with_reducible assumption)|assumption)) (by have h_:(x4_1:Int)<((x3_1.length:Int):Int):=of_decide_eq_true (by first|(with_reducible assumption)|assumption); first|exact h_|(have e_:=(Kd.R_reads' HO_3.out).1; omega)|simpa using h_); obtain rfl:=k61_openM hM12; have HP12:=Kd.R_seg HX12.out (x4_1:Int) (of_decide_eq_true (by first|(with_reducible assumption)|assumption)) (by have h_:(x4_1:Int)<((x3_1.length:Int):Int):=of_decide_eq_true (by first|(with_reducible assumption)|assumption); first|exact h_|(have e_:=(Kd.R_reads' HO_3.out).1; omega)|simpa using h_) (seg:=[.string t789,.int .i64 t790,.int .i64 t791]) (j:=0) hcl12 hcc12 (show 3≤3 from by decide) (x':=(⟨t789,t790,t791⟩:S61)) (k61_mkM _ _ _ (⟨t789,t790,t791⟩:S61) ) (fun _ hk=>hk); have hx12_0:=hcc12 0 _ rfl; (try simp only [show (k61).sz=3 from rfl,Nat.mul_one,Nat.add_zero] at hx12_0); have hf12_0:=hfr12 0; (try simp only [show (k61).sz=3 from rfl,Nat.mul_one,Nat.add_zero] at hf12_0); have hx12_1:=hcc12 1 _ rfl; (try simp only [show (k61).sz=3 from rfl,Nat.mul_one,Nat.add_zero] at hx12_1); have hf12_1:=hfr12 1; (try simp only [show (k61).sz=3 from rfl,Nat.mul_one,Nat.add_zero] at hf12_1); have hx12_2:=hcc12 2 _ rfl; (try simp only [show (k61).sz=3 from rfl,Nat.mul_one,Nat.add_zero] at hx12_2); have hf12_2:=hfr12 2; (try simp only [show (k61).sz=3 from rfl,Nat.mul_one,Nat.add_zero] at hf12_2); clear hcl12 hcc12 hfr12 hM12)|((with_reducible refine gate_store (t:=61) (p:=21) rfl ?_); refine store_event (t:=61) (p:=21) (v:=?vo_w13) (w1:=(((w11.setCell ⟨go10,(x4_1:Int).toNat*3,none⟩ (.string t789)).setCell ⟨go10,(x4_1:Int).toNat*3+1,none⟩ (.int .i64 t790)).setCell ⟨go10,(x4_1:Int).toNat*3+2,none⟩ (.int .i64 t791))) ?hg ?ho ?hn ?hr ?_; (case ho=>rfl); (case hg=>rfl); (case hn=>rfl); (case hr=>first|(go_simp; done)|(go_simp; rfl)); intro w13 hw; have hg:w11.grownBy w13 (some go10):=(by rw [hw]; exact HP12.2); have hp_:Kd.R k61 61 w13 w.heap.size (fun _=>True) (.slice (some ⟨go10,0,none⟩) x3_1.length co10) y792:=(by rw [hw,Ny792.out]; exact HP12.1); clear HP12; have n0_:=Aside0.mk (hp_); have n1_:=Aside0.mk ((by rw [hw]; exact below_set (below_set (below_set (HB.out) GB10.out) GB10.out) GB10.out:Below w.heap.size w w13)); clear HO_3; clear HB; have HO_3:=n0_; have HB:=n1_; clear n0_ n1_; clear hg hw hp_))
        go_roundg k1
        case measure=>have:=HK1.out; omega
        case rel=>exact ⟨(y792),(wrap64 (x4_1+1)),(by first|rfl|(simp; done)|(simp [*]; done)),H',⟨by have:=HK1.out; omega⟩,⟨by (with_reducible repeat (first|apply Kd.R_alloc|apply Kd.R_drewN|apply Kd.R_drew)); exact HO_3.out⟩,⟨by repeat (first|(with_reducible first|exact HB.out|apply below_alloc|apply pw_below_drewN|apply below_drew1)|exact HB.out)⟩⟩
       ·rw [if_neg c9] at H
        exact absurd H (by simp)
      ·rw [if_neg c7] at H
       exact absurd H (by simp)
     ·rw [if_neg c6] at H
      have c6b0:decide (x4_1<(l0.length:Int))=false:=decide_eq_false c6
      clear c6
      obtain rfl:=Option.some.inj H
      go_wp2
      go_ret
      exact ⟨_,by first|rfl|(simp [errW_none,errW_some]<;>rfl)|(simp [*,errW_none,errW_some]<;>rfl),by (with_reducible repeat (first|apply Kd.R_alloc|apply Kd.R_drewN|apply Kd.R_drew)); exact HO_3.out,by repeat (first|(with_reducible first|exact HB.out|apply below_alloc|apply pw_below_drewN|apply below_drew1)|exact HB.out)⟩
  ·rw [if_neg c3] at H
   exact absurd H (by simp)
 ·rw [if_neg c2] at H
  exact absurd H (by simp)
def laws_toNote.f (a0_0:ByteArray) (a0_1:ByteArray):Option (ByteArray × ByteArray):=some (a0_0,a0_1)
set_option maxHeartbeats 8000000 in
set_option maxRecDepth 100000 in
theorem laws_toNote.calls (a0_0:ByteArray) (a0_1:ByteArray) (r1:ByteArray) (r2:ByteArray) (w:World) (h:laws_toNote.f a0_0 a0_1=some (r1,r2)) :
  Calls Tryz.prog 119 #[.agg #[.string a0_0,.string a0_1]] w fun e w'=>e=.returned (.agg #[.string r1,.string r2])∧Below w.heap.size w w':=by
 have hu116:=Tryz.underlying116
 have hu124:=Tryz.underlying124
 have HB:=Aside0.mk (Below.refl w.heap.size w)
 have H:(some (a0_0,a0_1))=some (r1,r2):=h
 clear h
 simp only [Option.some.injEq,Prod.mk.injEq] at H
 obtain ⟨rfl,rfl⟩:=H
 go_enter Tryz.func119,Tryz.ntmps119
 go_wp2_with (first|((with_reducible refine gate_dst (N:=1) rfl ?_); refine box_event ?hg (N:=1) ?hd (cs:=#[.string a0_0,.string a0_1]) (t:=116) ?hr ?_; (case hd=>rfl); (case hg=>rfl); (case hr=>first|(go_simp; done)|(go_simp; rfl)); intro gb796 hg w2 hbox hb; have n0_:=Aside0.mk (below_step (by repeat (first|(with_reducible first|exact HB.out|apply below_alloc|apply pw_below_drewN|apply below_drew1)|exact HB.out)) hb); have n1_:=Aside0.mk (hbox); have n2_:=Aside0.mk ((by rw [hg]; exact (below_size (by repeat (first|(with_reducible first|exact HB.out|apply below_alloc|apply pw_below_drewN|apply below_drew1)|exact HB.out))):w.heap.size≤gb796)); have n3_:=Aside0.mk ((by rw [hg]; exact (below_size (by repeat (first|(with_reducible first|exact HB.out|apply below_alloc|apply pw_below_drewN|apply below_drew1)|exact HB.out))):w.heap.size≤gb796)); clear HB; have HB:=n0_; have BK796:=n1_; have GW796:=n2_; have GE796:=n3_; clear n0_ n1_ n2_ n3_; clear hb hbox hg)|((with_reducible refine gate_dst (N:=2) rfl ?_); refine box_event ?hg (N:=2) ?hd (cs:=#[.string (⟨#[]⟩:ByteArray),.string (⟨#[]⟩:ByteArray)]) (t:=124) ?hr ?_; (case hd=>rfl); (case hg=>rfl); (case hr=>first|(go_simp; done)|(go_simp; rfl)); intro gb797 hg w3 hbox hb; have n0_:=Aside0.mk (blk_below (g:=gb796) (o:=.cells #[.string a0_0,.string a0_1] 116 (0,0)) (by (with_reducible repeat (first|refine blk_drewN ?_ _|refine blk_drew ?_|refine blk_alloc ?_ _)); exact BK796.out) hb); have n1_:=Aside0.mk (below_step (by repeat (first|(with_reducible first|exact HB.out|apply below_alloc|apply pw_below_drewN|apply below_drew1|refine below_set ?_ GE796.out)|exact HB.out)) hb); have n2_:=Aside0.mk (hbox); have n3_:=Aside0.mk ((by rw [hg]; exact (below_size (by repeat (first|(with_reducible first|exact HB.out|apply below_alloc|apply pw_below_drewN|apply below_drew1|refine below_set ?_ GE796.out)|exact HB.out))):w.heap.size≤gb797)); have n4_:=Aside0.mk ((by rw [hg]; exact (below_size (by repeat (first|(with_reducible first|exact HB.out|apply below_alloc|apply pw_below_drewN|apply below_drew1|refine below_set ?_ GE796.out)|exact HB.out))):w.heap.size≤gb797)); have n5_:=Aside0.mk ((by rw [hg]; exact Nat.ne_of_lt (blk_lt (g:=gb796) (o:=.cells #[.string a0_0,.string a0_1] 116 (0,0)) (by (with_reducible repeat (first|refine blk_drewN ?_ _|refine blk_drew ?_|refine blk_alloc ?_ _)); exact BK796.out)):gb796 ≠ gb797)); have n6_:=Aside0.mk ((by rw [hg]; exact Nat.ne_of_gt (blk_lt (g:=gb796) (o:=.cells #[.string a0_0,.string a0_1] 116 (0,0)) (by (with_reducible repeat (first|refine blk_drewN ?_ _|refine blk_drew ?_|refine blk_alloc ?_ _)); exact BK796.out)):gb797 ≠ gb796)); clear BK796; clear HB; have BK796:=n0_; have HB:=n1_; have BK797:=n2_; have GW797:=n3_; have GE797:=n4_; have NB796_797:=n5_; have NB797_796:=n6_; clear n0_ n1_ n2_ n3_ n4_ n5_ n6_; clear hb hbox hg)|((with_reducible refine gate_dst (N:=3) rfl ?_); refine box_event ?hg (N:=3) ?hd (cs:=#[.string (⟨#[]⟩:ByteArray),.string (⟨#[]⟩:ByteArray)]) (t:=124) ?hr ?_; (case hd=>rfl); (case hg=>rfl); (case hr=>first|(go_simp; done)|(go_simp; rfl)); intro gb798 hg w4 hbox hb; have n0_:=Aside0.mk (blk_below (g:=gb796) (o:=.cells #[.string a0_0,.string a0_1] 116 (0,0)) (by (with_reducible repeat (first|refine blk_drewN ?_ _|refine blk_drew ?_|refine blk_alloc ?_ _)); exact BK796.out) hb); have n1_:=Aside0.mk (blk_below (g:=gb797) (o:=.cells #[.string (⟨#[]⟩:ByteArray),.string (⟨#[]⟩:ByteArray)] 124 (0,0)) (by (with_reducible repeat (first|refine blk_drewN ?_ _|refine blk_drew ?_|refine blk_alloc ?_ _)); exact BK797.out) hb); have n2_:=Aside0.mk (below_step (by repeat (first|(with_reducible first|exact HB.out|apply below_alloc|apply pw_below_drewN|apply below_drew1|refine below_set ?_ GE796.out|refine below_set ?_ GE797.out)|exact HB.out)) hb); have n3_:=Aside0.mk (hbox); have n4_:=Aside0.mk ((by rw [hg]; exact (below_size (by repeat (first|(with_reducible first|exact HB.out|apply below_alloc|apply pw_below_drewN|apply below_drew1|refine below_set ?_ GE796.out|refine below_set ?_ GE797.out)|exact HB.out))):w.heap.size≤gb798)); have n5_:=Aside0.mk ((by rw [hg]; exact (below_size (by repeat (first|(with_reducible first|exact HB.out|apply below_alloc|apply pw_below_drewN|apply below_drew1|refine below_set ?_ GE796.out|refine below_set ?_ GE797.out)|exact HB.out))):w.heap.size≤gb798)); have n6_:=Aside0.mk ((by rw [hg]; exact Nat.ne_of_lt (blk_lt (g:=gb796) (o:=.cells #[.string a0_0,.string a0_1] 116 (0,0)) (by (with_reducible repeat (first|refine blk_drewN ?_ _|refine blk_drew ?_|refine blk_alloc ?_ _)); exact BK796.out)):gb796 ≠ gb798)); have n7_:=Aside0.mk ((by rw [hg]; exact Nat.ne_of_gt (blk_lt (g:=gb796) (o:=.cells #[.string a0_0,.string a0_1] 116 (0,0)) (by (with_reducible repeat (first|refine blk_drewN ?_ _|refine blk_drew ?_|refine blk_alloc ?_ _)); exact BK796.out)):gb798 ≠ gb796)); have n8_:=Aside0.mk ((by rw [hg]; exact Nat.ne_of_lt (blk_lt (g:=gb797) (o:=.cells #[.string (⟨#[]⟩:ByteArray),.string (⟨#[]⟩:ByteArray)] 124 (0,0)) (by (with_reducible repeat (first|refine blk_drewN ?_ _|refine blk_drew ?_|refine blk_alloc ?_ _)); exact BK797.out)):gb797 ≠ gb798)); have n9_:=Aside0.mk ((by rw [hg]; exact Nat.ne_of_gt (blk_lt (g:=gb797) (o:=.cells #[.string (⟨#[]⟩:ByteArray),.string (⟨#[]⟩:ByteArray)] 124 (0,0)) (by (with_reducible repeat (first|refine blk_drewN ?_ _|refine blk_drew ?_|refine blk_alloc ?_ _)); exact BK797.out)):gb798 ≠ gb797)); clear BK796; clear BK797; clear HB; have BK796:=n0_; have BK797:=n1_; have HB:=n2_; have BK798:=n3_; have GW798:=n4_; have GE798:=n5_; have NB796_798:=n6_; have NB798_796:=n7_; have NB797_798:=n8_; have NB798_797:=n9_; clear n0_ n1_ n2_ n3_ n4_ n5_ n6_ n7_ n8_ n9_; clear hb hbox hg; have hnb5:=NB796_797.out; have hnc5:=NB797_796.out; have hnb6:=NB796_798.out; have hnc6:=NB798_796.out; have hcz7_0:w4.cell? ⟨gb796,0,none⟩=some (.string a0_0):=(blk_cell BK796.out 0).trans rfl; have hcz7_1:w4.cell? ⟨gb796,1,none⟩=some (.string a0_1):=(blk_cell BK796.out 1).trans rfl; have hfz7_0:=blk_frozen BK796.out 0; have hfz7_1:=blk_frozen BK796.out 1; have hnb8:=NB798_797.out; have hnc8:=NB797_798.out; have hcz9_0:w4.cell? ⟨gb798,0,none⟩=some (.string (⟨#[]⟩:ByteArray)):=(blk_cell BK798.out 0).trans rfl; have hcz9_1:w4.cell? ⟨gb798,1,none⟩=some (.string (⟨#[]⟩:ByteArray)):=(blk_cell BK798.out 1).trans rfl; have hfz9_0:=blk_frozen BK798.out 0; have hfz9_1:=blk_frozen BK798.out 1; have hcz10_0:w4.cell? ⟨gb797,0,none⟩=some (.string (⟨#[]⟩:ByteArray)):=(blk_cell BK797.out 0).trans rfl; have hcz10_1:w4.cell? ⟨gb797,1,none⟩=some (.string (⟨#[]⟩:ByteArray)):=(blk_cell BK797.out 1).trans rfl; have hfz10_0:=blk_frozen BK797.out 0; have hfz10_1:=blk_frozen BK797.out 1))
 refine bodyPost_ret (results_cell_row rfl _ _ gb797 124 #[.string a0_0,.string a0_1] (0,0) _ rfl (by (with_reducible repeat (first|refine blk_drewN ?_ _|refine blk_drew ?_|refine blk_alloc ?_ _)); refine blk_put (cs:=#[.string a0_0,.string (⟨#[]⟩:ByteArray)]) ?_ 1 _ rfl; (with_reducible repeat (first|refine blk_drewN ?_ _|refine blk_drew ?_|refine blk_alloc ?_ _)); refine blk_put (cs:=#[.string (⟨#[]⟩:ByteArray),.string (⟨#[]⟩:ByteArray)]) ?_ 0 _ rfl; (with_reducible repeat (first|refine blk_drewN ?_ _|refine blk_drew ?_|refine blk_alloc ?_ _)); refine blk_far ?_ NB797_798.out _; (with_reducible repeat (first|refine blk_drewN ?_ _|refine blk_drew ?_|refine blk_alloc ?_ _)); refine blk_far ?_ NB797_798.out _; (with_reducible repeat (first|refine blk_drewN ?_ _|refine blk_drew ?_|refine blk_alloc ?_ _)); exact BK797.out) Tryz.underlying124 rfl (by kernel_rfl)) rfl ?_
 exact ⟨by first|rfl|(simp [errW_none,errW_some]<;>rfl)|(simp [*,errW_none,errW_some]<;>rfl),by repeat (first|(with_reducible first|exact HB.out|apply below_alloc|apply pw_below_drewN|apply below_drew1|refine below_set ?_ GE796.out|refine below_set ?_ GE797.out|refine below_set ?_ GE798.out)|exact HB.out)⟩
def laws_toNoteS.l0:Nat→List (S116)→List (S124)→Int→Option ((List (S124)))
 |0,_,_,_=>none
 |k+1,x0,x3,x4=>if x4<(x0.length:Int) then (if 0≤x4 then ((laws_toNote.f ((rd_T116 x0 x4).f0) ((rd_T116 x0 x4).f1)).bind fun bt803=>(if x4<(x3.length:Int) then (laws_toNoteS.l0 k x0 (x3.set (x4:Int).toNat (⟨bt803.1,bt803.2⟩:S124)) (wrap64 (x4+1))) else (none))) else (none)) else (some x3)
def laws_toNoteS.f (k:Nat) (l0:List (S116)):Option ((List (S124))):=if 0≤(l0.length:Int) then (if ((l0.length:Int):Int).toNat≤8796093022208 then (laws_toNoteS.l0 k l0 (List.replicate ((l0.length:Int):Int).toNat z124) 0) else (none)) else (none)
set_option maxHeartbeats 8000000 in
set_option maxRecDepth 100000 in
theorem laws_toNoteS.calls (k:Nat) (A0:Option Addr) (c0:Nat) (l0:List (S116)) (r:List (S124)) (w:World) (hr0:Kd.C k116 w A0 l0.length l0) (hc0:l0.length≤c0) (h:laws_toNoteS.f k l0=some r) :
  Calls Tryz.prog 61 #[.slice A0 l0.length c0] w fun e w'=>∃ v0_:Value,e=.returned (v0_)∧Kd.R k124 124 w' w.heap.size (fun _=>True) v0_ r∧Below w.heap.size w w':=by
 have hu116:=Tryz.underlying116
 have hu124:=Tryz.underlying124
 have HR0:=Aside0.mk hr0
 have HC0:=Aside0.mk hc0
 clear hr0 hc0
 have HB:=Aside0.mk (Below.refl w.heap.size w)
 have H:(if 0≤(l0.length:Int) then (if ((l0.length:Int):Int).toNat≤8796093022208 then (laws_toNoteS.l0 k l0 (List.replicate ((l0.length:Int):Int).toNat z124) 0) else (none)) else (none))=some r:=h
 clear h
 by_cases c2:0≤(l0.length:Int)
 ·rw [if_pos c2] at H
  have c2b0:=eq_true c2
  have c2b1:decide (0≤(l0.length:Int))=true:=decide_eq_true c2
  clear c2
  by_cases c3:((l0.length:Int):Int).toNat≤8796093022208
  ·rw [if_pos c3] at H
   have c3b0:=eq_true c3
   have c3b1:decide (((l0.length:Int):Int).toNat≤8796093022208)=true:=decide_eq_true c3
   clear c3
   obtain ⟨y799,hy799⟩:∃ y_:List (S124),y_=(List.replicate ((l0.length:Int):Int).toNat z124):=⟨_,rfl⟩
   replace H:(laws_toNoteS.l0 k l0 y799 0)=some r:=by first|(rw [hy799]; with_reducible exact H)|(have H2_:=(Option.bind_some _ _).symm.trans H; rw [hy799]; with_reducible exact H2_)|(have H2_:=(Option.bind_some _ _).symm.trans H; with_reducible exact H2_)|with_reducible exact H|(rw [hy799]; exact H)|exact H
   have Ny799:=Aside0.mk hy799
   clear hy799
   have H':=Aside0.mk H
   clear H
   go_enter Tryz.func61,Tryz.ntmps61
   go_wp2_with (first|((with_reducible refine gate_dst (N:=7) rfl ?_); refine Kd.R_make k124 _ 124 rfl (N:=7) rfl 48 _ _ rfl (l0.length:Int) rfl rfl Tryz.underlying48 (.agg #[(.string ⟨#[]⟩),(.string ⟨#[]⟩)]) 32 info124 rfl (by decide) (by omega) z124 (ok:=fun _=>True) (okp:=fun _=>True) (k124_mkM _ _ _ z124 ) (fun _ hk=>hk) trivial (of_decide_eq_true (by first|(with_reducible assumption)|assumption)) (Nat.le_trans (Nat.mul_le_mul_right _ (of_decide_eq_true (by first|(with_reducible assumption)|assumption):(l0.length:Int).toNat≤8796093022208)) (by omega)) (Below.refl _ _) (Nat.le_refl _) ?_; intro v800 w4 ho5 hb hg_ hnew_; clear hg_ hnew_; (first|rw [← Ny799.out] at ho5|(simp only [Int.reduceToNat] at ho5; rw [← Ny799.out] at ho5)); have n0_:=Aside0.mk (Kd.R_lower ho5 (below_size (by repeat (first|(with_reducible first|exact HB.out|apply below_alloc|apply pw_below_drewN|apply below_drew1)|exact HB.out)))); have n1_:=Aside0.mk (below_step (by repeat (first|(with_reducible first|exact HB.out|apply below_alloc|apply pw_below_drewN|apply below_drew1)|exact HB.out)) hb); clear HB; have HO801:=n0_; have HB:=n1_; clear n0_ n1_; clear hb ho5))
   go_loopg [4] k (fun kq v4 w'=>∃ (x3_1:List (S124)) (x4_1:Int),v4=.int .i64 x4_1∧Aside0 (laws_toNoteS.l0 kq l0 x3_1 x4_1=some r)∧Aside0 (kq≤k)∧Aside0 (Kd.R k124 124 w' w.heap.size (fun _=>True) v800 x3_1)∧Aside0 (Below w.heap.size w w'))
   case atStart=>exact ⟨(y799),(0),(by first|rfl|(simp; done)|(simp [*]; done)),H',⟨Nat.le_refl _⟩,⟨by (with_reducible repeat (first|apply Kd.R_alloc|apply Kd.R_drewN|apply Kd.R_drew)); exact HO801.out⟩,⟨by repeat (first|(with_reducible first|exact HB.out|apply below_alloc|apply pw_below_drewN|apply below_drew1)|exact HB.out)⟩⟩
   case round =>
    clear H'
    try clear c2
    try clear c2b0
    try clear c2b1
    try clear p2
    try clear c3
    try clear c3b0
    try clear c3b1
    obtain ⟨x3_1,x4_1,rfl,HA,HK1,HO_3,HB⟩:=hrel
    cases gk with
    |zero=>exact absurd HA.out (by simp [laws_toNoteS.l0])
    |succ k1 =>
     have H:=HA.out
     clear HA
     simp only [laws_toNoteS.l0] at H
     by_cases c6:x4_1<(l0.length:Int)
     ·rw [if_pos c6] at H
      have c6b0:decide (x4_1<(l0.length:Int))=true:=decide_eq_true c6
      clear c6
      by_cases c7:0≤x4_1
      ·rw [if_pos c7] at H
       have c7b0:decide (0≤x4_1)=true:=decide_eq_true c7
       clear c7
       replace H:=Option.bind_eq_some_iff.mp H
       obtain ⟨⟨t803,t804⟩,A80,H⟩:=H
       replace H:(if x4_1<(x3_1.length:Int) then (laws_toNoteS.l0 k1 l0 (x3_1.set (x4_1:Int).toNat (⟨t803,t804⟩:S124)) (wrap64 (x4_1+1))) else (none))=some r:=H
       have A8:=Aside0.mk A80
       clear A80
       by_cases c9:x4_1<(x3_1.length:Int)
       ·rw [if_pos c9] at H
        have c9b0:decide (x4_1<(x3_1.length:Int))=true:=decide_eq_true c9
        clear c9
        obtain ⟨y805,hy805⟩:∃ y_:List (S124),y_=(x3_1.set (x4_1:Int).toNat (⟨t803,t804⟩:S124)):=⟨_,rfl⟩
        replace H:(laws_toNoteS.l0 k1 l0 y805 (wrap64 (x4_1+1)))=some r:=by first|(rw [hy805]; with_reducible exact H)|(have H2_:=(Option.bind_some _ _).symm.trans H; rw [hy805]; with_reducible exact H2_)|(have H2_:=(Option.bind_some _ _).symm.trans H; with_reducible exact H2_)|with_reducible exact H|(rw [hy805]; exact H)|exact H
        have Ny805:=Aside0.mk hy805
        clear hy805
        have H':=Aside0.mk H
        clear H
        have p802:0≤(x4_1:Int):=of_decide_eq_true (by first|(with_reducible assumption)|assumption)
        have q802:x4_1<(l0.length:Int):=of_decide_eq_true (by first|(with_reducible assumption)|assumption)
        obtain ⟨ad802,e802,hx802_0,hx802_1⟩:=at_T116 HR0.out x4_1 p802 q802
        cases e802
        replace hx802_0:=(HB.out.cell (World.block_lt_of_cell? w _ hx802_0)).trans hx802_0
        replace hx802_1:=(HB.out.cell (World.block_lt_of_cell? w _ hx802_1)).trans hx802_1
        replace p802:=eq_true p802
        replace q802:=eq_true q802
        go_wp2_with (first|((with_reducible refine gate_callee (f:=119) rfl ?_); refine goesL_ (some 20) rfl rfl Tryz.func119 (by kernel_rfl) rfl #[.agg #[.string ((rd_T116 l0 x4_1).f0),.string ((rd_T116 l0 x4_1).f1)]] rfl (by (try simp only [List.map_toArray,List.map_cons,List.map_nil]); first|done|rfl|(simp only [List.length_drop,List.length_take]; rfl)) ?_; (with_reducible refine (laws_toNote.calls ((rd_T116 l0 x4_1).f0) ((rd_T116 l0 x4_1).f1) t803 t804 _ A8.out).mono ?_); rintro e w11 ⟨rfl,hb⟩; refine ⟨_,rfl,?_⟩; have n0_:=Aside0.mk (Kd.R_below (by (with_reducible repeat (first|apply Kd.R_alloc|apply Kd.R_drewN|apply Kd.R_drew)); exact HO_3.out) hb); have n1_:=Aside0.mk (below_step (by repeat (first|(with_reducible first|exact HB.out|apply below_alloc|apply pw_below_drewN|apply below_drew1)|exact HB.out)) hb); clear HO_3; clear HB; have HO_3:=n0_; have HB:=n1_; clear n0_ n1_; (try clear hb); (try clear hb2); (try clear hk); (try clear hi); have p10:0≤(x4_1:Int):=of_decide_eq_true (by first|(with_reducible assumption)|assumption); have q10:(x4_1:Int)<((x3_1.length:Int):Int):=of_decide_eq_true (by first|(with_reducible assumption)|assumption); obtain ⟨go10,co10,eo10,gb10,gl10,cl10,HG10⟩:=Kd.R_form HO_3.out (by omega); (first|cases eo10|(injection eo10 with ea_ en_ ec_; (first|subst ea_|(injection ea_ with ea_; subst ea_)); subst ec_; clear en_)); have GB10:=Aside0.mk gb10; have GG10:=Aside0.mk HG10; clear gb10 gl10 HG10; obtain ⟨ce10,hcl10,hM10,hcc10,hfr10⟩:=Kd.R_elem HO_3.out z124 (x4_1:Int) p10 q10; obtain rfl:=k124_openM hM10; have hx10_0:w11.cell? ⟨go10,(x4_1:Int).toNat*2,none⟩=some (.string ((rd_T124 x3_1 x4_1).f0)):=hcc10 0 _ rfl; have hx10_1:w11.cell? ⟨go10,(x4_1:Int).toNat*2+1,none⟩=some (.string ((rd_T124 x3_1 x4_1).f1)):=hcc10 1 _ rfl; have hf10_0:w11.frozen? ⟨go10,(x4_1:Int).toNat*2,none⟩=false:=hfr10 0; have hf10_1:w11.frozen? ⟨go10,(x4_1:Int).toNat*2+1,none⟩=false:=hfr10 1; clear hcl10 hcc10 hfr10 hM10; replace p10:=eq_true p10; replace q10:=eq_true q10; have HX12:=Aside0.mk (show Kd.R k124 124 w11 w.heap.size (fun _=>True) (.slice (some ⟨go10,0,none⟩) x3_1.length co10) x3_1 from (by (with_reducible repeat (first|apply Kd.R_alloc|apply Kd.R_drewN|apply Kd.R_drew)); exact HO_3.out)); obtain ⟨ce12,hcl12,hM12,hcc12,hfr12⟩:=Kd.R_elem HX12.out z124 (x4_1:Int) (of_decide_eq_true (by first|(with_reducible assumption)|assumption)) (by have h_:(x4_1:Int)<((x3_1.length:Int):Int):=of_decide_eq_true (by first|(with_reducible assumption)|assumption); first|exact h_|(have e_:=(Kd.R_reads' HO_3.out).1; omega)|simpa using h_); obtain rfl:=k124_openM hM12; have HP12:=Kd.R_seg HX12.out (x4_1:Int) (of_decide_eq_true (by first|(with_reducible assumption)|assumption)) (by have h_:(x4_1:Int)<((x3_1.length:Int):Int):=of_decide_eq_true (by first|(with_reducible assumption)|assumption); first|exact h_|(have e_:=(Kd.R_reads' HO_3.out).1; omega)|simpa using h_) (seg:=[.string t803,.string t804]) (j:=0) hcl12 hcc12 (show 2≤2 from by decide) (x':=(⟨t803,t804⟩:S124)) (k124_mkM _ _ _ (⟨t803,t804⟩:S124) ) (fun _ hk=>hk); have hx12_0:=hcc12 0 _ rfl; (try simp only [show (k124).sz=2 from rfl,Nat.mul_one,Nat.add_zero] at hx12_0); have hf12_0:=hfr12 0; (try simp only [show (k124).sz=2 from rfl,Nat.mul_one,Nat.add_zero] at hf12_0); have hx12_1:=hcc12 1 _ rfl; (try simp only [show (k124).sz=2 from rfl,Nat.mul_one,Nat.add_zero] at hx12_1); have hf12_1:=hfr12 1; (try simp only [show (k124).sz=2 from rfl,Nat.mul_one,Nat.add_zero] at hf12_1); clear hcl12 hcc12 hfr12 hM12)|((with_reducible refine gate_store (t:=124) (p:=21) rfl ?_); refine store_event (t:=124) (p:=21) (v:=?vo_w13) (w1:=((w11.setCell ⟨go10,(x4_1:Int).toNat*2,none⟩ (.string t803)).setCell ⟨go10,(x4_1:Int).toNat*2+1,none⟩ (.string t804))) ?hg ?ho ?hn ?hr ?_; (case ho=>rfl); (case hg=>rfl); (case hn=>rfl); (case hr=>first|(go_simp; done)|(go_simp; rfl)); intro w13 hw; have hg:w11.grownBy w13 (some go10):=(by rw [hw]; exact HP12.2); have hp_:Kd.R k124 124 w13 w.heap.size (fun _=>True) (.slice (some ⟨go10,0,none⟩) x3_1.length co10) y805:=(by rw [hw,Ny805.out]; exact HP12.1); clear HP12; have n0_:=Aside0.mk (hp_); have n1_:=Aside0.mk ((by rw [hw]; exact below_set (below_set (HB.out) GB10.out) GB10.out:Below w.heap.size w w13)); clear HO_3; clear HB; have HO_3:=n0_; have HB:=n1_; clear n0_ n1_; clear hg hw hp_))
        go_roundg k1
        case measure=>have:=HK1.out; omega
        case rel=>exact ⟨(y805),(wrap64 (x4_1+1)),(by first|rfl|(simp; done)|(simp [*]; done)),H',⟨by have:=HK1.out; omega⟩,⟨by (with_reducible repeat (first|apply Kd.R_alloc|apply Kd.R_drewN|apply Kd.R_drew)); exact HO_3.out⟩,⟨by repeat (first|(with_reducible first|exact HB.out|apply below_alloc|apply pw_below_drewN|apply below_drew1)|exact HB.out)⟩⟩
       ·rw [if_neg c9] at H
        exact absurd H (by simp)
      ·rw [if_neg c7] at H
       exact absurd H (by simp)
     ·rw [if_neg c6] at H
      have c6b0:decide (x4_1<(l0.length:Int))=false:=decide_eq_false c6
      clear c6
      obtain rfl:=Option.some.inj H
      go_wp2
      go_ret
      exact ⟨_,by first|rfl|(simp [errW_none,errW_some]<;>rfl)|(simp [*,errW_none,errW_some]<;>rfl),by (with_reducible repeat (first|apply Kd.R_alloc|apply Kd.R_drewN|apply Kd.R_drew)); exact HO_3.out,by repeat (first|(with_reducible first|exact HB.out|apply below_alloc|apply pw_below_drewN|apply below_drew1)|exact HB.out)⟩
  ·rw [if_neg c3] at H
   exact absurd H (by simp)
 ·rw [if_neg c2] at H
  exact absurd H (by simp)
def laws_toPace.f (a0_0:Int) (a0_1:Int) (a0_2:Int) (a0_3:Int):Option (Int × Int × Int × Int):=some (a0_0,a0_1,a0_2,a0_3)
set_option maxHeartbeats 8000000 in
set_option maxRecDepth 100000 in
theorem laws_toPace.calls (a0_0:Int) (a0_1:Int) (a0_2:Int) (a0_3:Int) (r1:Int) (r2:Int) (r3:Int) (r4:Int) (w:World) (h:laws_toPace.f a0_0 a0_1 a0_2 a0_3=some (r1,r2,r3,r4)) :
  Calls Tryz.prog 60 #[.agg #[.int .i64 a0_0,.int .i64 a0_1,.int .i64 a0_2,.int .i64 a0_3]] w fun e w'=>e=.returned (.agg #[.int .i64 r1,.int .i64 r2,.int .i64 r3,.int .i64 r4])∧Below w.heap.size w w':=by
 have hu41:=Tryz.underlying41
 have hu47:=Tryz.underlying47
 have HB:=Aside0.mk (Below.refl w.heap.size w)
 have H:(some (a0_0,a0_1,a0_2,a0_3))=some (r1,r2,r3,r4):=h
 clear h
 simp only [Option.some.injEq,Prod.mk.injEq] at H
 obtain ⟨rfl,rfl,rfl,rfl⟩:=H
 go_enter Tryz.func60,Tryz.ntmps60
 go_wp2_with (first|((with_reducible refine gate_dst (N:=1) rfl ?_); refine box_event ?hg (N:=1) ?hd (cs:=#[.int .i64 a0_0,.int .i64 a0_1,.int .i64 a0_2,.int .i64 a0_3]) (t:=41) ?hr ?_; (case hd=>rfl); (case hg=>rfl); (case hr=>first|(go_simp; done)|(go_simp; rfl)); intro gb793 hg w2 hbox hb; have n0_:=Aside0.mk (below_step (by repeat (first|(with_reducible first|exact HB.out|apply below_alloc|apply pw_below_drewN|apply below_drew1)|exact HB.out)) hb); have n1_:=Aside0.mk (hbox); have n2_:=Aside0.mk ((by rw [hg]; exact (below_size (by repeat (first|(with_reducible first|exact HB.out|apply below_alloc|apply pw_below_drewN|apply below_drew1)|exact HB.out))):w.heap.size≤gb793)); have n3_:=Aside0.mk ((by rw [hg]; exact (below_size (by repeat (first|(with_reducible first|exact HB.out|apply below_alloc|apply pw_below_drewN|apply below_drew1)|exact HB.out))):w.heap.size≤gb793)); clear HB; have HB:=n0_; have BK793:=n1_; have GW793:=n2_; have GE793:=n3_; clear n0_ n1_ n2_ n3_; clear hb hbox hg)|((with_reducible refine gate_dst (N:=2) rfl ?_); refine box_event ?hg (N:=2) ?hd (cs:=#[.int .i64 0,.int .i64 0,.int .i64 0,.int .i64 0]) (t:=47) ?hr ?_; (case hd=>rfl); (case hg=>rfl); (case hr=>first|(go_simp; done)|(go_simp; rfl)); intro gb794 hg w3 hbox hb; have n0_:=Aside0.mk (blk_below (g:=gb793) (o:=.cells #[.int .i64 a0_0,.int .i64 a0_1,.int .i64 a0_2,.int .i64 a0_3] 41 (0,0)) (by (with_reducible repeat (first|refine blk_drewN ?_ _|refine blk_drew ?_|refine blk_alloc ?_ _)); exact BK793.out) hb); have n1_:=Aside0.mk (below_step (by repeat (first|(with_reducible first|exact HB.out|apply below_alloc|apply pw_below_drewN|apply below_drew1|refine below_set ?_ GE793.out)|exact HB.out)) hb); have n2_:=Aside0.mk (hbox); have n3_:=Aside0.mk ((by rw [hg]; exact (below_size (by repeat (first|(with_reducible first|exact HB.out|apply below_alloc|apply pw_below_drewN|apply below_drew1|refine below_set ?_ GE793.out)|exact HB.out))):w.heap.size≤gb794)); have n4_:=Aside0.mk ((by rw [hg]; exact (below_size (by repeat (first|(with_reducible first|exact HB.out|apply below_alloc|apply pw_below_drewN|apply below_drew1|refine below_set ?_ GE793.out)|exact HB.out))):w.heap.size≤gb794)); have n5_:=Aside0.mk ((by rw [hg]; exact Nat.ne_of_lt (blk_lt (g:=gb793) (o:=.cells #[.int .i64 a0_0,.int .i64 a0_1,.int .i64 a0_2,.int .i64 a0_3] 41 (0,0)) (by (with_reducible repeat (first|refine blk_drewN ?_ _|refine blk_drew ?_|refine blk_alloc ?_ _)); exact BK793.out)):gb793 ≠ gb794)); have n6_:=Aside0.mk ((by rw [hg]; exact Nat.ne_of_gt (blk_lt (g:=gb793) (o:=.cells #[.int .i64 a0_0,.int .i64 a0_1,.int .i64 a0_2,.int .i64 a0_3] 41 (0,0)) (by (with_reducible repeat (first|refine blk_drewN ?_ _|refine blk_drew ?_|refine blk_alloc ?_ _)); exact BK793.out)):gb794 ≠ gb793)); clear BK793; clear HB; have BK793:=n0_; have HB:=n1_; have BK794:=n2_; have GW794:=n3_; have GE794:=n4_; have NB793_794:=n5_; have NB794_793:=n6_; clear n0_ n1_ n2_ n3_ n4_ n5_ n6_; clear hb hbox hg)|((with_reducible refine gate_dst (N:=3) rfl ?_); refine box_event ?hg (N:=3) ?hd (cs:=#[.int .i64 0,.int .i64 0,.int .i64 0,.int .i64 0]) (t:=47) ?hr ?_; (case hd=>rfl); (case hg=>rfl); (case hr=>first|(go_simp; done)|(go_simp; rfl)); intro gb795 hg w4 hbox hb; have n0_:=Aside0.mk (blk_below (g:=gb793) (o:=.cells #[.int .i64 a0_0,.int .i64 a0_1,.int .i64 a0_2,.int .i64 a0_3] 41 (0,0)) (by (with_reducible repeat (first|refine blk_drewN ?_ _|refine blk_drew ?_|refine blk_alloc ?_ _)); exact BK793.out) hb); have n1_:=Aside0.mk (blk_below (g:=gb794) (o:=.cells #[.int .i64 0,.int .i64 0,.int .i64 0,.int .i64 0] 47 (0,0)) (by (with_reducible repeat (first|refine blk_drewN ?_ _|refine blk_drew ?_|refine blk_alloc ?_ _)); exact BK794.out) hb); have n2_:=Aside0.mk (below_step (by repeat (first|(with_reducible first|exact HB.out|apply below_alloc|apply pw_below_drewN|apply below_drew1|refine below_set ?_ GE793.out|refine below_set ?_ GE794.out)|exact HB.out)) hb); have n3_:=Aside0.mk (hbox); have n4_:=Aside0.mk ((by rw [hg]; exact (below_size (by repeat (first|(with_reducible first|exact HB.out|apply below_alloc|apply pw_below_drewN|apply below_drew1|refine below_set ?_ GE793.out|refine below_set ?_ GE794.out)|exact HB.out))):w.heap.size≤gb795)); have n5_:=Aside0.mk ((by rw [hg]; exact (below_size (by repeat (first|(with_reducible first|exact HB.out|apply below_alloc|apply pw_below_drewN|apply below_drew1|refine below_set ?_ GE793.out|refine below_set ?_ GE794.out)|exact HB.out))):w.heap.size≤gb795)); have n6_:=Aside0.mk ((by rw [hg]; exact Nat.ne_of_lt (blk_lt (g:=gb793) (o:=.cells #[.int .i64 a0_0,.int .i64 a0_1,.int .i64 a0_2,.int .i64 a0_3] 41 (0,0)) (by (with_reducible repeat (first|refine blk_drewN ?_ _|refine blk_drew ?_|refine blk_alloc ?_ _)); exact BK793.out)):gb793 ≠ gb795)); have n7_:=Aside0.mk ((by rw [hg]; exact Nat.ne_of_gt (blk_lt (g:=gb793) (o:=.cells #[.int .i64 a0_0,.int .i64 a0_1,.int .i64 a0_2,.int .i64 a0_3] 41 (0,0)) (by (with_reducible repeat (first|refine blk_drewN ?_ _|refine blk_drew ?_|refine blk_alloc ?_ _)); exact BK793.out)):gb795 ≠ gb793)); have n8_:=Aside0.mk ((by rw [hg]; exact Nat.ne_of_lt (blk_lt (g:=gb794) (o:=.cells #[.int .i64 0,.int .i64 0,.int .i64 0,.int .i64 0] 47 (0,0)) (by (with_reducible repeat (first|refine blk_drewN ?_ _|refine blk_drew ?_|refine blk_alloc ?_ _)); exact BK794.out)):gb794 ≠ gb795)); have n9_:=Aside0.mk ((by rw [hg]; exact Nat.ne_of_gt (blk_lt (g:=gb794) (o:=.cells #[.int .i64 0,.int .i64 0,.int .i64 0,.int .i64 0] 47 (0,0)) (by (with_reducible repeat (first|refine blk_drewN ?_ _|refine blk_drew ?_|refine blk_alloc ?_ _)); exact BK794.out)):gb795 ≠ gb794)); clear BK793; clear BK794; clear HB; have BK793:=n0_; have BK794:=n1_; have HB:=n2_; have BK795:=n3_; have GW795:=n4_; have GE795:=n5_; have NB793_795:=n6_; have NB795_793:=n7_; have NB794_795:=n8_; have NB795_794:=n9_; clear n0_ n1_ n2_ n3_ n4_ n5_ n6_ n7_ n8_ n9_; clear hb hbox hg; have hnb5:=NB793_794.out; have hnc5:=NB794_793.out; have hnb6:=NB793_795.out; have hnc6:=NB795_793.out; have hcz7_0:w4.cell? ⟨gb793,0,none⟩=some (.int .i64 a0_0):=(blk_cell BK793.out 0).trans rfl; have hcz7_1:w4.cell? ⟨gb793,1,none⟩=some (.int .i64 a0_1):=(blk_cell BK793.out 1).trans rfl; have hcz7_2:w4.cell? ⟨gb793,2,none⟩=some (.int .i64 a0_2):=(blk_cell BK793.out 2).trans rfl; have hcz7_3:w4.cell? ⟨gb793,3,none⟩=some (.int .i64 a0_3):=(blk_cell BK793.out 3).trans rfl; have hfz7_0:=blk_frozen BK793.out 0; have hfz7_1:=blk_frozen BK793.out 1; have hfz7_2:=blk_frozen BK793.out 2; have hfz7_3:=blk_frozen BK793.out 3; have hnb8:=NB795_794.out; have hnc8:=NB794_795.out; have hcz9_0:w4.cell? ⟨gb795,0,none⟩=some (.int .i64 0):=(blk_cell BK795.out 0).trans rfl; have hcz9_1:w4.cell? ⟨gb795,1,none⟩=some (.int .i64 0):=(blk_cell BK795.out 1).trans rfl; have hcz9_2:w4.cell? ⟨gb795,2,none⟩=some (.int .i64 0):=(blk_cell BK795.out 2).trans rfl; have hcz9_3:w4.cell? ⟨gb795,3,none⟩=some (.int .i64 0):=(blk_cell BK795.out 3).trans rfl; have hfz9_0:=blk_frozen BK795.out 0; have hfz9_1:=blk_frozen BK795.out 1; have hfz9_2:=blk_frozen BK795.out 2; have hfz9_3:=blk_frozen BK795.out 3; have hcz10_0:w4.cell? ⟨gb794,0,none⟩=some (.int .i64 0):=(blk_cell BK794.out 0).trans rfl; have hcz10_1:w4.cell? ⟨gb794,1,none⟩=some (.int .i64 0):=(blk_cell BK794.out 1).trans rfl; have hcz10_2:w4.cell? ⟨gb794,2,none⟩=some (.int .i64 0):=(blk_cell BK794.out 2).trans rfl; have hcz10_3:w4.cell? ⟨gb794,3,none⟩=some (.int .i64 0):=(blk_cell BK794.out 3).trans rfl; have hfz10_0:=blk_frozen BK794.out 0; have hfz10_1:=blk_frozen BK794.out 1; have hfz10_2:=blk_frozen BK794.out 2; have hfz10_3:=blk_frozen BK794.out 3))
 refine bodyPost_ret (results_cell_row rfl _ _ gb794 47 #[.int .i64 a0_0,.int .i64 a0_1,.int .i64 a0_2,.int .i64 a0_3] (0,0) _ rfl (by (with_reducible repeat (first|refine blk_drewN ?_ _|refine blk_drew ?_|refine blk_alloc ?_ _)); refine blk_put (cs:=#[.int .i64 a0_0,.int .i64 a0_1,.int .i64 a0_2,.int .i64 0]) ?_ 3 _ rfl; (with_reducible repeat (first|refine blk_drewN ?_ _|refine blk_drew ?_|refine blk_alloc ?_ _)); refine blk_put (cs:=#[.int .i64 a0_0,.int .i64 a0_1,.int .i64 0,.int .i64 0]) ?_ 2 _ rfl; (with_reducible repeat (first|refine blk_drewN ?_ _|refine blk_drew ?_|refine blk_alloc ?_ _)); refine blk_put (cs:=#[.int .i64 a0_0,.int .i64 0,.int .i64 0,.int .i64 0]) ?_ 1 _ rfl; (with_reducible repeat (first|refine blk_drewN ?_ _|refine blk_drew ?_|refine blk_alloc ?_ _)); refine blk_put (cs:=#[.int .i64 0,.int .i64 0,.int .i64 0,.int .i64 0]) ?_ 0 _ rfl; (with_reducible repeat (first|refine blk_drewN ?_ _|refine blk_drew ?_|refine blk_alloc ?_ _)); refine blk_far ?_ NB794_795.out _; (with_reducible repeat (first|refine blk_drewN ?_ _|refine blk_drew ?_|refine blk_alloc ?_ _)); refine blk_far ?_ NB794_795.out _; (with_reducible repeat (first|refine blk_drewN ?_ _|refine blk_drew ?_|refine blk_alloc ?_ _)); refine blk_far ?_ NB794_795.out _; (with_reducible repeat (first|refine blk_drewN ?_ _|refine blk_drew ?_|refine blk_alloc ?_ _)); refine blk_far ?_ NB794_795.out _; (with_reducible repeat (first|refine blk_drewN ?_ _|refine blk_drew ?_|refine blk_alloc ?_ _)); exact BK794.out) Tryz.underlying47 rfl (by kernel_rfl)) rfl ?_
 exact ⟨by first|rfl|(simp [errW_none,errW_some]<;>rfl)|(simp [*,errW_none,errW_some]<;>rfl),by repeat (first|(with_reducible first|exact HB.out|apply below_alloc|apply pw_below_drewN|apply below_drew1|refine below_set ?_ GE793.out|refine below_set ?_ GE794.out|refine below_set ?_ GE795.out)|exact HB.out)⟩
def laws_toOrder.f (k:Nat) (a0_0:ByteArray) (a0_1:ByteArray) (a0_2:Int) (a0_3:Int) (l0_4:List (S113)) (a0_5:Int) (a0_6:Int) (a0_7:Int) (a0_8:Int) (l0_9:List (S116)):Option (ByteArray × ByteArray × Int × Int × (List (S61)) × Int × Int × Int × Int × (List (S124))):=(laws_toMetricS.f k l0_4).bind fun t809=>((laws_toPace.f a0_5 a0_6 a0_7 a0_8).bind fun bt812=>((laws_toNoteS.f k l0_9).bind fun t816=>(some (a0_0,a0_1,a0_2,a0_3,t809,bt812.1,bt812.2.1,bt812.2.2.1,bt812.2.2.2,t816))))
set_option maxHeartbeats 8000000 in
set_option maxRecDepth 100000 in
theorem laws_toOrder.calls (k:Nat) (a0_0:ByteArray) (a0_1:ByteArray) (a0_2:Int) (a0_3:Int) (A0_4:Option Addr) (c0_4:Nat) (l0_4:List (S113)) (a0_5:Int) (a0_6:Int) (a0_7:Int) (a0_8:Int) (A0_9:Option Addr) (c0_9:Nat) (l0_9:List (S116)) (r1:ByteArray) (r2:ByteArray) (r3:Int) (r4:Int) (r5:List (S61)) (r6:Int) (r7:Int) (r8:Int) (r9:Int) (r10:List (S124)) (w:World) (hr0_4:Kd.C k113 w A0_4 l0_4.length l0_4) (hc0_4:l0_4.length≤c0_4) (hr0_9:Kd.C k116 w A0_9 l0_9.length l0_9) (hc0_9:l0_9.length≤c0_9) (h:laws_toOrder.f k a0_0 a0_1 a0_2 a0_3 l0_4 a0_5 a0_6 a0_7 a0_8 l0_9=some (r1,r2,r3,r4,r5,r6,r7,r8,r9,r10)) :
  Calls Tryz.prog 19 #[.agg #[.string a0_0,.string a0_1,.int .i64 a0_2,.int .i64 a0_3,.slice A0_4 l0_4.length c0_4,.int .i64 a0_5,.int .i64 a0_6,.int .i64 a0_7,.int .i64 a0_8,.slice A0_9 l0_9.length c0_9]] w fun e w'=>∃ v4_ v9_:Value,e=.returned (.agg #[.string r1,.string r2,.int .i64 r3,.int .i64 r4,v4_,.int .i64 r6,.int .i64 r7,.int .i64 r8,.int .i64 r9,v9_])∧Kd.R k61 61 w' w.heap.size (fun _=>True) v4_ r5∧Kd.R k124 124 w' w.heap.size (fun _=>True) v9_ r10∧Below w.heap.size w w':=by
 have hu44:=Tryz.underlying44
 have hu50:=Tryz.underlying50
 have hu41:=Tryz.underlying41
 have hu47:=Tryz.underlying47
 have HR0_4:=Aside0.mk hr0_4
 have HC0_4:=Aside0.mk hc0_4
 clear hr0_4 hc0_4
 have HR0_9:=Aside0.mk hr0_9
 have HC0_9:=Aside0.mk hc0_9
 clear hr0_9 hc0_9
 have HB:=Aside0.mk (Below.refl w.heap.size w)
 have H:((laws_toMetricS.f k l0_4).bind fun t809=>((laws_toPace.f a0_5 a0_6 a0_7 a0_8).bind fun bt812=>((laws_toNoteS.f k l0_9).bind fun t816=>(some (a0_0,a0_1,a0_2,a0_3,t809,bt812.1,bt812.2.1,bt812.2.2.1,bt812.2.2.2,t816)))))=some (r1,r2,r3,r4,r5,r6,r7,r8,r9,r10):=h
 clear h
 replace H:=Option.bind_eq_some_iff.mp H
 obtain ⟨t809,A20,H⟩:=H
 replace H:((laws_toPace.f a0_5 a0_6 a0_7 a0_8).bind fun bt812=>((laws_toNoteS.f k l0_9).bind fun t816=>(some (a0_0,a0_1,a0_2,a0_3,t809,bt812.1,bt812.2.1,bt812.2.2.1,bt812.2.2.2,t816))))=some (r1,r2,r3,r4,r5,r6,r7,r8,r9,r10):=H
 have A2:=Aside0.mk A20
 clear A20
 replace H:=Option.bind_eq_some_iff.mp H
 obtain ⟨⟨t812,t813,t814,t815⟩,A30,H⟩:=H
 replace H:((laws_toNoteS.f k l0_9).bind fun t816=>(some (a0_0,a0_1,a0_2,a0_3,t809,t812,t813,t814,t815,t816)))=some (r1,r2,r3,r4,r5,r6,r7,r8,r9,r10):=H
 have A3:=Aside0.mk A30
 clear A30
 replace H:=Option.bind_eq_some_iff.mp H
 obtain ⟨t816,A40,H⟩:=H
 replace H:(some (a0_0,a0_1,a0_2,a0_3,t809,t812,t813,t814,t815,t816))=some (r1,r2,r3,r4,r5,r6,r7,r8,r9,r10):=H
 have A4:=Aside0.mk A40
 clear A40
 simp only [Option.some.injEq,Prod.mk.injEq] at H
 obtain ⟨rfl,rfl,rfl,rfl,rfl,rfl,rfl,rfl,rfl,rfl⟩:=H
 go_enter Tryz.func19,Tryz.ntmps19
 go_wp2_with (first|((with_reducible refine gate_dst (N:=1) rfl ?_); refine box_event ?hg (N:=1) ?hd (cs:=#[.string a0_0,.string a0_1,.int .i64 a0_2,.int .i64 a0_3,.slice A0_4 l0_4.length c0_4,.int .i64 a0_5,.int .i64 a0_6,.int .i64 a0_7,.int .i64 a0_8,.slice A0_9 l0_9.length c0_9]) (t:=44) ?hr ?_; (case hd=>rfl); (case hg=>rfl); (case hr=>first|(go_simp; done)|(go_simp; rfl)); intro gb806 hg w5 hbox hb; have n0_:=Aside0.mk (below_step (by repeat (first|(with_reducible first|exact HB.out|apply below_alloc|apply pw_below_drewN|apply below_drew1)|exact HB.out)) hb); have n1_:=Aside0.mk (hbox); have n2_:=Aside0.mk ((by rw [hg]; exact (below_size (by repeat (first|(with_reducible first|exact HB.out|apply below_alloc|apply pw_below_drewN|apply below_drew1)|exact HB.out))):w.heap.size≤gb806)); have n3_:=Aside0.mk ((by rw [hg]; exact (below_size (by repeat (first|(with_reducible first|exact HB.out|apply below_alloc|apply pw_below_drewN|apply below_drew1)|exact HB.out))):w.heap.size≤gb806)); clear HB; have HB:=n0_; have BK806:=n1_; have GW806:=n2_; have GE806:=n3_; clear n0_ n1_ n2_ n3_; clear hb hbox hg)|((with_reducible refine gate_dst (N:=2) rfl ?_); refine box_event ?hg (N:=2) ?hd (cs:=#[.string (⟨#[]⟩:ByteArray),.string (⟨#[]⟩:ByteArray),.int .i64 0,.int .i64 0,.slice none 0 0,.int .i64 0,.int .i64 0,.int .i64 0,.int .i64 0,.slice none 0 0]) (t:=50) ?hr ?_; (case hd=>rfl); (case hg=>rfl); (case hr=>first|(go_simp; done)|(go_simp; rfl)); intro gb807 hg w6 hbox hb; have n0_:=Aside0.mk (blk_below (g:=gb806) (o:=.cells #[.string a0_0,.string a0_1,.int .i64 a0_2,.int .i64 a0_3,.slice A0_4 l0_4.length c0_4,.int .i64 a0_5,.int .i64 a0_6,.int .i64 a0_7,.int .i64 a0_8,.slice A0_9 l0_9.length c0_9] 44 (0,0)) (by (with_reducible repeat (first|refine blk_drewN ?_ _|refine blk_drew ?_|refine blk_alloc ?_ _)); exact BK806.out) hb); have n1_:=Aside0.mk (below_step (by repeat (first|(with_reducible first|exact HB.out|apply below_alloc|apply pw_below_drewN|apply below_drew1|refine below_set ?_ GE806.out)|exact HB.out)) hb); have n2_:=Aside0.mk (hbox); have n3_:=Aside0.mk ((by rw [hg]; exact (below_size (by repeat (first|(with_reducible first|exact HB.out|apply below_alloc|apply pw_below_drewN|apply below_drew1|refine below_set ?_ GE806.out)|exact HB.out))):w.heap.size≤gb807)); have n4_:=Aside0.mk ((by rw [hg]; exact (below_size (by repeat (first|(with_reducible first|exact HB.out|apply below_alloc|apply pw_below_drewN|apply below_drew1|refine below_set ?_ GE806.out)|exact HB.out))):w.heap.size≤gb807)); have n5_:=Aside0.mk ((by rw [hg]; exact Nat.ne_of_lt (blk_lt (g:=gb806) (o:=.cells #[.string a0_0,.string a0_1,.int .i64 a0_2,.int .i64 a0_3,.slice A0_4 l0_4.length c0_4,.int .i64 a0_5,.int .i64 a0_6,.int .i64 a0_7,.int .i64 a0_8,.slice A0_9 l0_9.length c0_9] 44 (0,0)) (by (with_reducible repeat (first|refine blk_drewN ?_ _|refine blk_drew ?_|refine blk_alloc ?_ _)); exact BK806.out)):gb806 ≠ gb807)); have n6_:=Aside0.mk ((by rw [hg]; exact Nat.ne_of_gt (blk_lt (g:=gb806) (o:=.cells #[.string a0_0,.string a0_1,.int .i64 a0_2,.int .i64 a0_3,.slice A0_4 l0_4.length c0_4,.int .i64 a0_5,.int .i64 a0_6,.int .i64 a0_7,.int .i64 a0_8,.slice A0_9 l0_9.length c0_9] 44 (0,0)) (by (with_reducible repeat (first|refine blk_drewN ?_ _|refine blk_drew ?_|refine blk_alloc ?_ _)); exact BK806.out)):gb807 ≠ gb806)); clear BK806; clear HB; have BK806:=n0_; have HB:=n1_; have BK807:=n2_; have GW807:=n3_; have GE807:=n4_; have NB806_807:=n5_; have NB807_806:=n6_; clear n0_ n1_ n2_ n3_ n4_ n5_ n6_; clear hb hbox hg)|((with_reducible refine gate_dst (N:=3) rfl ?_); refine box_event ?hg (N:=3) ?hd (cs:=#[.string (⟨#[]⟩:ByteArray),.string (⟨#[]⟩:ByteArray),.int .i64 0,.int .i64 0,.slice none 0 0,.int .i64 0,.int .i64 0,.int .i64 0,.int .i64 0,.slice none 0 0]) (t:=50) ?hr ?_; (case hd=>rfl); (case hg=>rfl); (case hr=>first|(go_simp; done)|(go_simp; rfl)); intro gb808 hg w7 hbox hb; have n0_:=Aside0.mk (blk_below (g:=gb806) (o:=.cells #[.string a0_0,.string a0_1,.int .i64 a0_2,.int .i64 a0_3,.slice A0_4 l0_4.length c0_4,.int .i64 a0_5,.int .i64 a0_6,.int .i64 a0_7,.int .i64 a0_8,.slice A0_9 l0_9.length c0_9] 44 (0,0)) (by (with_reducible repeat (first|refine blk_drewN ?_ _|refine blk_drew ?_|refine blk_alloc ?_ _)); exact BK806.out) hb); have n1_:=Aside0.mk (blk_below (g:=gb807) (o:=.cells #[.string (⟨#[]⟩:ByteArray),.string (⟨#[]⟩:ByteArray),.int .i64 0,.int .i64 0,.slice none 0 0,.int .i64 0,.int .i64 0,.int .i64 0,.int .i64 0,.slice none 0 0] 50 (0,0)) (by (with_reducible repeat (first|refine blk_drewN ?_ _|refine blk_drew ?_|refine blk_alloc ?_ _)); exact BK807.out) hb); have n2_:=Aside0.mk (below_step (by repeat (first|(with_reducible first|exact HB.out|apply below_alloc|apply pw_below_drewN|apply below_drew1|refine below_set ?_ GE806.out|refine below_set ?_ GE807.out)|exact HB.out)) hb); have n3_:=Aside0.mk (hbox); have n4_:=Aside0.mk ((by rw [hg]; exact (below_size (by repeat (first|(with_reducible first|exact HB.out|apply below_alloc|apply pw_below_drewN|apply below_drew1|refine below_set ?_ GE806.out|refine below_set ?_ GE807.out)|exact HB.out))):w.heap.size≤gb808)); have n5_:=Aside0.mk ((by rw [hg]; exact (below_size (by repeat (first|(with_reducible first|exact HB.out|apply below_alloc|apply pw_below_drewN|apply below_drew1|refine below_set ?_ GE806.out|refine below_set ?_ GE807.out)|exact HB.out))):w.heap.size≤gb808)); have n6_:=Aside0.mk ((by rw [hg]; exact Nat.ne_of_lt (blk_lt (g:=gb806) (o:=.cells #[.string a0_0,.string a0_1,.int .i64 a0_2,.int .i64 a0_3,.slice A0_4 l0_4.length c0_4,.int .i64 a0_5,.int .i64 a0_6,.int .i64 a0_7,.int .i64 a0_8,.slice A0_9 l0_9.length c0_9] 44 (0,0)) (by (with_reducible repeat (first|refine blk_drewN ?_ _|refine blk_drew ?_|refine blk_alloc ?_ _)); exact BK806.out)):gb806 ≠ gb808)); have n7_:=Aside0.mk ((by rw [hg]; exact Nat.ne_of_gt (blk_lt (g:=gb806) (o:=.cells #[.string a0_0,.string a0_1,.int .i64 a0_2,.int .i64 a0_3,.slice A0_4 l0_4.length c0_4,.int .i64 a0_5,.int .i64 a0_6,.int .i64 a0_7,.int .i64 a0_8,.slice A0_9 l0_9.length c0_9] 44 (0,0)) (by (with_reducible repeat (first|refine blk_drewN ?_ _|refine blk_drew ?_|refine blk_alloc ?_ _)); exact BK806.out)):gb808 ≠ gb806)); have n8_:=Aside0.mk ((by rw [hg]; exact Nat.ne_of_lt (blk_lt (g:=gb807) (o:=.cells #[.string (⟨#[]⟩:ByteArray),.string (⟨#[]⟩:ByteArray),.int .i64 0,.int .i64 0,.slice none 0 0,.int .i64 0,.int .i64 0,.int .i64 0,.int .i64 0,.slice none 0 0] 50 (0,0)) (by (with_reducible repeat (first|refine blk_drewN ?_ _|refine blk_drew ?_|refine blk_alloc ?_ _)); exact BK807.out)):gb807 ≠ gb808)); have n9_:=Aside0.mk ((by rw [hg]; exact Nat.ne_of_gt (blk_lt (g:=gb807) (o:=.cells #[.string (⟨#[]⟩:ByteArray),.string (⟨#[]⟩:ByteArray),.int .i64 0,.int .i64 0,.slice none 0 0,.int .i64 0,.int .i64 0,.int .i64 0,.int .i64 0,.slice none 0 0] 50 (0,0)) (by (with_reducible repeat (first|refine blk_drewN ?_ _|refine blk_drew ?_|refine blk_alloc ?_ _)); exact BK807.out)):gb808 ≠ gb807)); clear BK806; clear BK807; clear HB; have BK806:=n0_; have BK807:=n1_; have HB:=n2_; have BK808:=n3_; have GW808:=n4_; have GE808:=n5_; have NB806_808:=n6_; have NB808_806:=n7_; have NB807_808:=n8_; have NB808_807:=n9_; clear n0_ n1_ n2_ n3_ n4_ n5_ n6_ n7_ n8_ n9_; clear hb hbox hg; have hnb8:=NB806_807.out; have hnc8:=NB807_806.out; have hnb9:=NB806_808.out; have hnc9:=NB808_806.out; have hcz10_0:w7.cell? ⟨gb806,0,none⟩=some (.string a0_0):=(blk_cell BK806.out 0).trans rfl; have hcz10_1:w7.cell? ⟨gb806,1,none⟩=some (.string a0_1):=(blk_cell BK806.out 1).trans rfl; have hcz10_2:w7.cell? ⟨gb806,2,none⟩=some (.int .i64 a0_2):=(blk_cell BK806.out 2).trans rfl; have hcz10_3:w7.cell? ⟨gb806,3,none⟩=some (.int .i64 a0_3):=(blk_cell BK806.out 3).trans rfl; have hcz10_4:w7.cell? ⟨gb806,4,none⟩=some (.slice A0_4 l0_4.length c0_4):=(blk_cell BK806.out 4).trans rfl; have hcz10_5:w7.cell? ⟨gb806,5,none⟩=some (.int .i64 a0_5):=(blk_cell BK806.out 5).trans rfl; have hcz10_6:w7.cell? ⟨gb806,6,none⟩=some (.int .i64 a0_6):=(blk_cell BK806.out 6).trans rfl; have hcz10_7:w7.cell? ⟨gb806,7,none⟩=some (.int .i64 a0_7):=(blk_cell BK806.out 7).trans rfl; have hcz10_8:w7.cell? ⟨gb806,8,none⟩=some (.int .i64 a0_8):=(blk_cell BK806.out 8).trans rfl; have hcz10_9:w7.cell? ⟨gb806,9,none⟩=some (.slice A0_9 l0_9.length c0_9):=(blk_cell BK806.out 9).trans rfl; have hfz10_0:=blk_frozen BK806.out 0; have hfz10_1:=blk_frozen BK806.out 1; have hfz10_2:=blk_frozen BK806.out 2; have hfz10_3:=blk_frozen BK806.out 3; have hfz10_4:=blk_frozen BK806.out 4; have hfz10_5:=blk_frozen BK806.out 5; have hfz10_6:=blk_frozen BK806.out 6; have hfz10_7:=blk_frozen BK806.out 7; have hfz10_8:=blk_frozen BK806.out 8; have hfz10_9:=blk_frozen BK806.out 9; have hnb11:=NB808_807.out; have hnc11:=NB807_808.out; have hcz12_0:w7.cell? ⟨gb808,0,none⟩=some (.string (⟨#[]⟩:ByteArray)):=(blk_cell BK808.out 0).trans rfl; have hcz12_1:w7.cell? ⟨gb808,1,none⟩=some (.string (⟨#[]⟩:ByteArray)):=(blk_cell BK808.out 1).trans rfl; have hcz12_2:w7.cell? ⟨gb808,2,none⟩=some (.int .i64 0):=(blk_cell BK808.out 2).trans rfl; have hcz12_3:w7.cell? ⟨gb808,3,none⟩=some (.int .i64 0):=(blk_cell BK808.out 3).trans rfl; have hcz12_4:w7.cell? ⟨gb808,4,none⟩=some (.slice none 0 0):=(blk_cell BK808.out 4).trans rfl; have hcz12_5:w7.cell? ⟨gb808,5,none⟩=some (.int .i64 0):=(blk_cell BK808.out 5).trans rfl; have hcz12_6:w7.cell? ⟨gb808,6,none⟩=some (.int .i64 0):=(blk_cell BK808.out 6).trans rfl; have hcz12_7:w7.cell? ⟨gb808,7,none⟩=some (.int .i64 0):=(blk_cell BK808.out 7).trans rfl; have hcz12_8:w7.cell? ⟨gb808,8,none⟩=some (.int .i64 0):=(blk_cell BK808.out 8).trans rfl; have hcz12_9:w7.cell? ⟨gb808,9,none⟩=some (.slice none 0 0):=(blk_cell BK808.out 9).trans rfl; have hfz12_0:=blk_frozen BK808.out 0; have hfz12_1:=blk_frozen BK808.out 1; have hfz12_2:=blk_frozen BK808.out 2; have hfz12_3:=blk_frozen BK808.out 3; have hfz12_4:=blk_frozen BK808.out 4; have hfz12_5:=blk_frozen BK808.out 5; have hfz12_6:=blk_frozen BK808.out 6; have hfz12_7:=blk_frozen BK808.out 7; have hfz12_8:=blk_frozen BK808.out 8; have hfz12_9:=blk_frozen BK808.out 9)|((with_reducible refine gate_callee (f:=59) rfl ?_); refine goesL_ (some 18) rfl rfl Tryz.func59 (by kernel_rfl) rfl #[.slice A0_4 l0_4.length c0_4] rfl (by (try simp only [List.map_toArray,List.map_cons,List.map_nil]); first|done|rfl|(simp only [List.length_drop,List.length_take]; rfl)) ?_; (with_reducible refine (laws_toMetricS.calls k _ _ l0_4 t809 _ ?side1 ?side2 A2.out).mono ?_); (case side1=>exact Kd.C_below HR0_4.out (by repeat (first|(with_reducible first|exact HB.out|apply below_alloc|apply pw_below_drewN|apply below_drew1|refine below_set ?_ GE806.out|refine below_set ?_ GE807.out|refine below_set ?_ GE808.out)|exact HB.out))); (case side2=>exact HC0_4.out); rintro e w13 ⟨v810,rfl,ho0,hb⟩; refine ⟨_,rfl,?_⟩; have n0_:=Aside0.mk (Kd.R_lower ho0 (below_size (by repeat (first|(with_reducible first|exact HB.out|apply below_alloc|apply pw_below_drewN|apply below_drew1|refine below_set ?_ GE806.out|refine below_set ?_ GE807.out|refine below_set ?_ GE808.out)|exact HB.out)))); have n1_:=Aside0.mk (blk_below (g:=gb806) (o:=.cells #[.string a0_0,.string a0_1,.int .i64 a0_2,.int .i64 a0_3,.slice A0_4 l0_4.length c0_4,.int .i64 a0_5,.int .i64 a0_6,.int .i64 a0_7,.int .i64 a0_8,.slice A0_9 l0_9.length c0_9] 44 (0,0)) (by (with_reducible repeat (first|refine blk_drewN ?_ _|refine blk_drew ?_|refine blk_alloc ?_ _)); refine blk_far ?_ NB806_808.out _; (with_reducible repeat (first|refine blk_drewN ?_ _|refine blk_drew ?_|refine blk_alloc ?_ _)); refine blk_far ?_ NB806_808.out _; (with_reducible repeat (first|refine blk_drewN ?_ _|refine blk_drew ?_|refine blk_alloc ?_ _)); refine blk_far ?_ NB806_808.out _; (with_reducible repeat (first|refine blk_drewN ?_ _|refine blk_drew ?_|refine blk_alloc ?_ _)); refine blk_far ?_ NB806_808.out _; (with_reducible repeat (first|refine blk_drewN ?_ _|refine blk_drew ?_|refine blk_alloc ?_ _)); exact BK806.out) hb); have n2_:=Aside0.mk (blk_below (g:=gb807) (o:=.cells #[.string (⟨#[]⟩:ByteArray),.string (⟨#[]⟩:ByteArray),.int .i64 0,.int .i64 0,.slice none 0 0,.int .i64 0,.int .i64 0,.int .i64 0,.int .i64 0,.slice none 0 0] 50 (0,0)) (by (with_reducible repeat (first|refine blk_drewN ?_ _|refine blk_drew ?_|refine blk_alloc ?_ _)); refine blk_far ?_ NB807_808.out _; (with_reducible repeat (first|refine blk_drewN ?_ _|refine blk_drew ?_|refine blk_alloc ?_ _)); refine blk_far ?_ NB807_808.out _; (with_reducible repeat (first|refine blk_drewN ?_ _|refine blk_drew ?_|refine blk_alloc ?_ _)); refine blk_far ?_ NB807_808.out _; (with_reducible repeat (first|refine blk_drewN ?_ _|refine blk_drew ?_|refine blk_alloc ?_ _)); refine blk_far ?_ NB807_808.out _; (with_reducible repeat (first|refine blk_drewN ?_ _|refine blk_drew ?_|refine blk_alloc ?_ _)); exact BK807.out) hb); have n3_:=Aside0.mk (blk_below (g:=gb808) (o:=.cells #[.string a0_0,.string a0_1,.int .i64 a0_2,.int .i64 a0_3,.slice none 0 0,.int .i64 0,.int .i64 0,.int .i64 0,.int .i64 0,.slice none 0 0] 50 (0,0)) (by (with_reducible repeat (first|refine blk_drewN ?_ _|refine blk_drew ?_|refine blk_alloc ?_ _)); refine blk_put (cs:=#[.string a0_0,.string a0_1,.int .i64 a0_2,.int .i64 0,.slice none 0 0,.int .i64 0,.int .i64 0,.int .i64 0,.int .i64 0,.slice none 0 0]) ?_ 3 _ rfl; (with_reducible repeat (first|refine blk_drewN ?_ _|refine blk_drew ?_|refine blk_alloc ?_ _)); refine blk_put (cs:=#[.string a0_0,.string a0_1,.int .i64 0,.int .i64 0,.slice none 0 0,.int .i64 0,.int .i64 0,.int .i64 0,.int .i64 0,.slice none 0 0]) ?_ 2 _ rfl; (with_reducible repeat (first|refine blk_drewN ?_ _|refine blk_drew ?_|refine blk_alloc ?_ _)); refine blk_put (cs:=#[.string a0_0,.string (⟨#[]⟩:ByteArray),.int .i64 0,.int .i64 0,.slice none 0 0,.int .i64 0,.int .i64 0,.int .i64 0,.int .i64 0,.slice none 0 0]) ?_ 1 _ rfl; (with_reducible repeat (first|refine blk_drewN ?_ _|refine blk_drew ?_|refine blk_alloc ?_ _)); refine blk_put (cs:=#[.string (⟨#[]⟩:ByteArray),.string (⟨#[]⟩:ByteArray),.int .i64 0,.int .i64 0,.slice none 0 0,.int .i64 0,.int .i64 0,.int .i64 0,.int .i64 0,.slice none 0 0]) ?_ 0 _ rfl; (with_reducible repeat (first|refine blk_drewN ?_ _|refine blk_drew ?_|refine blk_alloc ?_ _)); exact BK808.out) hb); have n4_:=Aside0.mk (below_step (by repeat (first|(with_reducible first|exact HB.out|apply below_alloc|apply pw_below_drewN|apply below_drew1|refine below_set ?_ GE806.out|refine below_set ?_ GE807.out|refine below_set ?_ GE808.out)|exact HB.out)) hb); clear BK806; clear BK807; clear BK808; clear HB; have HO811:=n0_; have BK806:=n1_; have BK807:=n2_; have BK808:=n3_; have HB:=n4_; clear n0_ n1_ n2_ n3_ n4_; (try clear hb); (try clear hb2); (try clear hk); (try clear hi); (try clear ho0); obtain ⟨Ao14,co14,eo14⟩:=Kd.R_slice HO811.out; subst eo14; have hcz15_0:w13.cell? ⟨gb808,0,none⟩=some (.string a0_0):=(blk_cell BK808.out 0).trans rfl; have hcz15_1:w13.cell? ⟨gb808,1,none⟩=some (.string a0_1):=(blk_cell BK808.out 1).trans rfl; have hcz15_2:w13.cell? ⟨gb808,2,none⟩=some (.int .i64 a0_2):=(blk_cell BK808.out 2).trans rfl; have hcz15_3:w13.cell? ⟨gb808,3,none⟩=some (.int .i64 a0_3):=(blk_cell BK808.out 3).trans rfl; have hcz15_4:w13.cell? ⟨gb808,4,none⟩=some (.slice none 0 0):=(blk_cell BK808.out 4).trans rfl; have hcz15_5:w13.cell? ⟨gb808,5,none⟩=some (.int .i64 0):=(blk_cell BK808.out 5).trans rfl; have hcz15_6:w13.cell? ⟨gb808,6,none⟩=some (.int .i64 0):=(blk_cell BK808.out 6).trans rfl; have hcz15_7:w13.cell? ⟨gb808,7,none⟩=some (.int .i64 0):=(blk_cell BK808.out 7).trans rfl; have hcz15_8:w13.cell? ⟨gb808,8,none⟩=some (.int .i64 0):=(blk_cell BK808.out 8).trans rfl; have hcz15_9:w13.cell? ⟨gb808,9,none⟩=some (.slice none 0 0):=(blk_cell BK808.out 9).trans rfl; have hfz15_0:=blk_frozen BK808.out 0; have hfz15_1:=blk_frozen BK808.out 1; have hfz15_2:=blk_frozen BK808.out 2; have hfz15_3:=blk_frozen BK808.out 3; have hfz15_4:=blk_frozen BK808.out 4; have hfz15_5:=blk_frozen BK808.out 5; have hfz15_6:=blk_frozen BK808.out 6; have hfz15_7:=blk_frozen BK808.out 7; have hfz15_8:=blk_frozen BK808.out 8; have hfz15_9:=blk_frozen BK808.out 9; have hcz16_0:w13.cell? ⟨gb806,0,none⟩=some (.string a0_0):=(blk_cell BK806.out 0).trans rfl; have hcz16_1:w13.cell? ⟨gb806,1,none⟩=some (.string a0_1):=(blk_cell BK806.out 1).trans rfl; have hcz16_2:w13.cell? ⟨gb806,2,none⟩=some (.int .i64 a0_2):=(blk_cell BK806.out 2).trans rfl; have hcz16_3:w13.cell? ⟨gb806,3,none⟩=some (.int .i64 a0_3):=(blk_cell BK806.out 3).trans rfl; have hcz16_4:w13.cell? ⟨gb806,4,none⟩=some (.slice A0_4 l0_4.length c0_4):=(blk_cell BK806.out 4).trans rfl; have hcz16_5:w13.cell? ⟨gb806,5,none⟩=some (.int .i64 a0_5):=(blk_cell BK806.out 5).trans rfl; have hcz16_6:w13.cell? ⟨gb806,6,none⟩=some (.int .i64 a0_6):=(blk_cell BK806.out 6).trans rfl; have hcz16_7:w13.cell? ⟨gb806,7,none⟩=some (.int .i64 a0_7):=(blk_cell BK806.out 7).trans rfl; have hcz16_8:w13.cell? ⟨gb806,8,none⟩=some (.int .i64 a0_8):=(blk_cell BK806.out 8).trans rfl; have hcz16_9:w13.cell? ⟨gb806,9,none⟩=some (.slice A0_9 l0_9.length c0_9):=(blk_cell BK806.out 9).trans rfl; have hfz16_0:=blk_frozen BK806.out 0; have hfz16_1:=blk_frozen BK806.out 1; have hfz16_2:=blk_frozen BK806.out 2; have hfz16_3:=blk_frozen BK806.out 3; have hfz16_4:=blk_frozen BK806.out 4; have hfz16_5:=blk_frozen BK806.out 5; have hfz16_6:=blk_frozen BK806.out 6; have hfz16_7:=blk_frozen BK806.out 7; have hfz16_8:=blk_frozen BK806.out 8; have hfz16_9:=blk_frozen BK806.out 9)|((with_reducible refine gate_callee (f:=60) rfl ?_); refine goesL_ (some 22) rfl rfl Tryz.func60 (by kernel_rfl) rfl #[.agg #[.int .i64 a0_5,.int .i64 a0_6,.int .i64 a0_7,.int .i64 a0_8]] rfl (by (try simp only [List.map_toArray,List.map_cons,List.map_nil]); first|done|rfl|(simp only [List.length_drop,List.length_take]; rfl)) ?_; (with_reducible refine (laws_toPace.calls a0_5 a0_6 a0_7 a0_8 t812 t813 t814 t815 _ A3.out).mono ?_); rintro e w17 ⟨rfl,hb⟩; refine ⟨_,rfl,?_⟩; have n0_:=Aside0.mk (Kd.R_below (by (with_reducible repeat (first|apply Kd.R_alloc|apply Kd.R_drewN|apply Kd.R_drew)); exact (Kd.R_mono (Kd.R_far (p:=⟨gb808,4,none⟩) (Kd.R_types HO811.out BK808.out (by decide)) (fun _ hk=>hk.2) (.slice Ao14 t809.length co14)) (fun _ h_=>h_.1))) hb); have n1_:=Aside0.mk (blk_below (g:=gb806) (o:=.cells #[.string a0_0,.string a0_1,.int .i64 a0_2,.int .i64 a0_3,.slice A0_4 l0_4.length c0_4,.int .i64 a0_5,.int .i64 a0_6,.int .i64 a0_7,.int .i64 a0_8,.slice A0_9 l0_9.length c0_9] 44 (0,0)) (by (with_reducible repeat (first|refine blk_drewN ?_ _|refine blk_drew ?_|refine blk_alloc ?_ _)); refine blk_far ?_ NB806_808.out _; (with_reducible repeat (first|refine blk_drewN ?_ _|refine blk_drew ?_|refine blk_alloc ?_ _)); exact BK806.out) hb); have n2_:=Aside0.mk (blk_below (g:=gb807) (o:=.cells #[.string (⟨#[]⟩:ByteArray),.string (⟨#[]⟩:ByteArray),.int .i64 0,.int .i64 0,.slice none 0 0,.int .i64 0,.int .i64 0,.int .i64 0,.int .i64 0,.slice none 0 0] 50 (0,0)) (by (with_reducible repeat (first|refine blk_drewN ?_ _|refine blk_drew ?_|refine blk_alloc ?_ _)); refine blk_far ?_ NB807_808.out _; (with_reducible repeat (first|refine blk_drewN ?_ _|refine blk_drew ?_|refine blk_alloc ?_ _)); exact BK807.out) hb); have n3_:=Aside0.mk (blk_below (g:=gb808) (o:=.cells #[.string a0_0,.string a0_1,.int .i64 a0_2,.int .i64 a0_3,.slice Ao14 t809.length co14,.int .i64 0,.int .i64 0,.int .i64 0,.int .i64 0,.slice none 0 0] 50 (0,0)) (by (with_reducible repeat (first|refine blk_drewN ?_ _|refine blk_drew ?_|refine blk_alloc ?_ _)); refine blk_put (cs:=#[.string a0_0,.string a0_1,.int .i64 a0_2,.int .i64 a0_3,.slice none 0 0,.int .i64 0,.int .i64 0,.int .i64 0,.int .i64 0,.slice none 0 0]) ?_ 4 _ rfl; (with_reducible repeat (first|refine blk_drewN ?_ _|refine blk_drew ?_|refine blk_alloc ?_ _)); exact BK808.out) hb); have n4_:=Aside0.mk (below_step (by repeat (first|(with_reducible first|exact HB.out|apply below_alloc|apply pw_below_drewN|apply below_drew1|refine below_set ?_ GE806.out|refine below_set ?_ GE807.out|refine below_set ?_ GE808.out)|exact HB.out)) hb); clear HO811; clear BK806; clear BK807; clear BK808; clear HB; have HO811:=n0_; have BK806:=n1_; have BK807:=n2_; have BK808:=n3_; have HB:=n4_; clear n0_ n1_ n2_ n3_ n4_; (try clear hb); (try clear hb2); (try clear hk); (try clear hi); have hcz18_0:w17.cell? ⟨gb808,0,none⟩=some (.string a0_0):=(blk_cell BK808.out 0).trans rfl; have hcz18_1:w17.cell? ⟨gb808,1,none⟩=some (.string a0_1):=(blk_cell BK808.out 1).trans rfl; have hcz18_2:w17.cell? ⟨gb808,2,none⟩=some (.int .i64 a0_2):=(blk_cell BK808.out 2).trans rfl; have hcz18_3:w17.cell? ⟨gb808,3,none⟩=some (.int .i64 a0_3):=(blk_cell BK808.out 3).trans rfl; have hcz18_4:w17.cell? ⟨gb808,4,none⟩=some (.slice Ao14 t809.length co14):=(blk_cell BK808.out 4).trans rfl; have hcz18_5:w17.cell? ⟨gb808,5,none⟩=some (.int .i64 0):=(blk_cell BK808.out 5).trans rfl; have hcz18_6:w17.cell? ⟨gb808,6,none⟩=some (.int .i64 0):=(blk_cell BK808.out 6).trans rfl; have hcz18_7:w17.cell? ⟨gb808,7,none⟩=some (.int .i64 0):=(blk_cell BK808.out 7).trans rfl; have hcz18_8:w17.cell? ⟨gb808,8,none⟩=some (.int .i64 0):=(blk_cell BK808.out 8).trans rfl; have hcz18_9:w17.cell? ⟨gb808,9,none⟩=some (.slice none 0 0):=(blk_cell BK808.out 9).trans rfl; have hfz18_0:=blk_frozen BK808.out 0; have hfz18_1:=blk_frozen BK808.out 1; have hfz18_2:=blk_frozen BK808.out 2; have hfz18_3:=blk_frozen BK808.out 3; have hfz18_4:=blk_frozen BK808.out 4; have hfz18_5:=blk_frozen BK808.out 5; have hfz18_6:=blk_frozen BK808.out 6; have hfz18_7:=blk_frozen BK808.out 7; have hfz18_8:=blk_frozen BK808.out 8; have hfz18_9:=blk_frozen BK808.out 9; have hcz19_0:w17.cell? ⟨gb806,0,none⟩=some (.string a0_0):=(blk_cell BK806.out 0).trans rfl; have hcz19_1:w17.cell? ⟨gb806,1,none⟩=some (.string a0_1):=(blk_cell BK806.out 1).trans rfl; have hcz19_2:w17.cell? ⟨gb806,2,none⟩=some (.int .i64 a0_2):=(blk_cell BK806.out 2).trans rfl; have hcz19_3:w17.cell? ⟨gb806,3,none⟩=some (.int .i64 a0_3):=(blk_cell BK806.out 3).trans rfl; have hcz19_4:w17.cell? ⟨gb806,4,none⟩=some (.slice A0_4 l0_4.length c0_4):=(blk_cell BK806.out 4).trans rfl; have hcz19_5:w17.cell? ⟨gb806,5,none⟩=some (.int .i64 a0_5):=(blk_cell BK806.out 5).trans rfl; have hcz19_6:w17.cell? ⟨gb806,6,none⟩=some (.int .i64 a0_6):=(blk_cell BK806.out 6).trans rfl; have hcz19_7:w17.cell? ⟨gb806,7,none⟩=some (.int .i64 a0_7):=(blk_cell BK806.out 7).trans rfl; have hcz19_8:w17.cell? ⟨gb806,8,none⟩=some (.int .i64 a0_8):=(blk_cell BK806.out 8).trans rfl; have hcz19_9:w17.cell? ⟨gb806,9,none⟩=some (.slice A0_9 l0_9.length c0_9):=(blk_cell BK806.out 9).trans rfl; have hfz19_0:=blk_frozen BK806.out 0; have hfz19_1:=blk_frozen BK806.out 1; have hfz19_2:=blk_frozen BK806.out 2; have hfz19_3:=blk_frozen BK806.out 3; have hfz19_4:=blk_frozen BK806.out 4; have hfz19_5:=blk_frozen BK806.out 5; have hfz19_6:=blk_frozen BK806.out 6; have hfz19_7:=blk_frozen BK806.out 7; have hfz19_8:=blk_frozen BK806.out 8; have hfz19_9:=blk_frozen BK806.out 9)|((with_reducible refine gate_callee (f:=61) rfl ?_); refine goesL_ (some 26) rfl rfl Tryz.func61 (by kernel_rfl) rfl #[.slice A0_9 l0_9.length c0_9] rfl (by (try simp only [List.map_toArray,List.map_cons,List.map_nil]); first|done|rfl|(simp only [List.length_drop,List.length_take]; rfl)) ?_; (with_reducible refine (laws_toNoteS.calls k _ _ l0_9 t816 _ ?side1 ?side2 A4.out).mono ?_); (case side1=>exact Kd.C_below HR0_9.out (by repeat (first|(with_reducible first|exact HB.out|apply below_alloc|apply pw_below_drewN|apply below_drew1|refine below_set ?_ GE806.out|refine below_set ?_ GE807.out|refine below_set ?_ GE808.out)|exact HB.out))); (case side2=>exact HC0_9.out); rintro e w20 ⟨v817,rfl,ho0,hb⟩; refine ⟨_,rfl,?_⟩; have n0_:=Aside0.mk (Kd.R_below (by (with_reducible repeat (first|apply Kd.R_alloc|apply Kd.R_drewN|apply Kd.R_drew)); exact (Kd.R_mono (Kd.R_far (p:=⟨gb808,8,none⟩) (Kd.R_far (p:=⟨gb808,7,none⟩) (Kd.R_far (p:=⟨gb808,6,none⟩) (Kd.R_far (p:=⟨gb808,5,none⟩) (Kd.R_types HO811.out BK808.out (by decide)) (fun _ hk=>hk.2) (.int .i64 t812)) (fun _ hk=>hk.2) (.int .i64 t813)) (fun _ hk=>hk.2) (.int .i64 t814)) (fun _ hk=>hk.2) (.int .i64 t815)) (fun _ h_=>h_.1))) hb); have n1_:=Aside0.mk (Kd.R_lower ho0 (below_size (by repeat (first|(with_reducible first|exact HB.out|apply below_alloc|apply pw_below_drewN|apply below_drew1|refine below_set ?_ GE806.out|refine below_set ?_ GE807.out|refine below_set ?_ GE808.out)|exact HB.out)))); have n2_:=Aside0.mk (blk_below (g:=gb806) (o:=.cells #[.string a0_0,.string a0_1,.int .i64 a0_2,.int .i64 a0_3,.slice A0_4 l0_4.length c0_4,.int .i64 a0_5,.int .i64 a0_6,.int .i64 a0_7,.int .i64 a0_8,.slice A0_9 l0_9.length c0_9] 44 (0,0)) (by (with_reducible repeat (first|refine blk_drewN ?_ _|refine blk_drew ?_|refine blk_alloc ?_ _)); refine blk_far ?_ NB806_808.out _; (with_reducible repeat (first|refine blk_drewN ?_ _|refine blk_drew ?_|refine blk_alloc ?_ _)); refine blk_far ?_ NB806_808.out _; (with_reducible repeat (first|refine blk_drewN ?_ _|refine blk_drew ?_|refine blk_alloc ?_ _)); refine blk_far ?_ NB806_808.out _; (with_reducible repeat (first|refine blk_drewN ?_ _|refine blk_drew ?_|refine blk_alloc ?_ _)); refine blk_far ?_ NB806_808.out _; (with_reducible repeat (first|refine blk_drewN ?_ _|refine blk_drew ?_|refine blk_alloc ?_ _)); exact BK806.out) hb); have n3_:=Aside0.mk (blk_below (g:=gb807) (o:=.cells #[.string (⟨#[]⟩:ByteArray),.string (⟨#[]⟩:ByteArray),.int .i64 0,.int .i64 0,.slice none 0 0,.int .i64 0,.int .i64 0,.int .i64 0,.int .i64 0,.slice none 0 0] 50 (0,0)) (by (with_reducible repeat (first|refine blk_drewN ?_ _|refine blk_drew ?_|refine blk_alloc ?_ _)); refine blk_far ?_ NB807_808.out _; (with_reducible repeat (first|refine blk_drewN ?_ _|refine blk_drew ?_|refine blk_alloc ?_ _)); refine blk_far ?_ NB807_808.out _; (with_reducible repeat (first|refine blk_drewN ?_ _|refine blk_drew ?_|refine blk_alloc ?_ _)); refine blk_far ?_ NB807_808.out _; (with_reducible repeat (first|refine blk_drewN ?_ _|refine blk_drew ?_|refine blk_alloc ?_ _)); refine blk_far ?_ NB807_808.out _; (with_reducible repeat (first|refine blk_drewN ?_ _|refine blk_drew ?_|refine blk_alloc ?_ _)); exact BK807.out) hb); have n4_:=Aside0.mk (blk_below (g:=gb808) (o:=.cells #[.string a0_0,.string a0_1,.int .i64 a0_2,.int .i64 a0_3,.slice Ao14 t809.length co14,.int .i64 t812,.int .i64 t813,.int .i64 t814,.int .i64 t815,.slice none 0 0] 50 (0,0)) (by (with_reducible repeat (first|refine blk_drewN ?_ _|refine blk_drew ?_|refine blk_alloc ?_ _)); refine blk_put (cs:=#[.string a0_0,.string a0_1,.int .i64 a0_2,.int .i64 a0_3,.slice Ao14 t809.length co14,.int .i64 t812,.int .i64 t813,.int .i64 t814,.int .i64 0,.slice none 0 0]) ?_ 8 _ rfl; (with_reducible repeat (first|refine blk_drewN ?_ _|refine blk_drew ?_|refine blk_alloc ?_ _)); refine blk_put (cs:=#[.string a0_0,.string a0_1,.int .i64 a0_2,.int .i64 a0_3,.slice Ao14 t809.length co14,.int .i64 t812,.int .i64 t813,.int .i64 0,.int .i64 0,.slice none 0 0]) ?_ 7 _ rfl; (with_reducible repeat (first|refine blk_drewN ?_ _|refine blk_drew ?_|refine blk_alloc ?_ _)); refine blk_put (cs:=#[.string a0_0,.string a0_1,.int .i64 a0_2,.int .i64 a0_3,.slice Ao14 t809.length co14,.int .i64 t812,.int .i64 0,.int .i64 0,.int .i64 0,.slice none 0 0]) ?_ 6 _ rfl; (with_reducible repeat (first|refine blk_drewN ?_ _|refine blk_drew ?_|refine blk_alloc ?_ _)); refine blk_put (cs:=#[.string a0_0,.string a0_1,.int .i64 a0_2,.int .i64 a0_3,.slice Ao14 t809.length co14,.int .i64 0,.int .i64 0,.int .i64 0,.int .i64 0,.slice none 0 0]) ?_ 5 _ rfl; (with_reducible repeat (first|refine blk_drewN ?_ _|refine blk_drew ?_|refine blk_alloc ?_ _)); exact BK808.out) hb); have n5_:=Aside0.mk (below_step (by repeat (first|(with_reducible first|exact HB.out|apply below_alloc|apply pw_below_drewN|apply below_drew1|refine below_set ?_ GE806.out|refine below_set ?_ GE807.out|refine below_set ?_ GE808.out)|exact HB.out)) hb); clear HO811; clear BK806; clear BK807; clear BK808; clear HB; have HO811:=n0_; have HO818:=n1_; have BK806:=n2_; have BK807:=n3_; have BK808:=n4_; have HB:=n5_; clear n0_ n1_ n2_ n3_ n4_ n5_; (try clear hb); (try clear hb2); (try clear hk); (try clear hi); (try clear ho0); obtain ⟨Ao21,co21,eo21⟩:=Kd.R_slice HO818.out; subst eo21; have hcz22_0:w20.cell? ⟨gb808,0,none⟩=some (.string a0_0):=(blk_cell BK808.out 0).trans rfl; have hcz22_1:w20.cell? ⟨gb808,1,none⟩=some (.string a0_1):=(blk_cell BK808.out 1).trans rfl; have hcz22_2:w20.cell? ⟨gb808,2,none⟩=some (.int .i64 a0_2):=(blk_cell BK808.out 2).trans rfl; have hcz22_3:w20.cell? ⟨gb808,3,none⟩=some (.int .i64 a0_3):=(blk_cell BK808.out 3).trans rfl; have hcz22_4:w20.cell? ⟨gb808,4,none⟩=some (.slice Ao14 t809.length co14):=(blk_cell BK808.out 4).trans rfl; have hcz22_5:w20.cell? ⟨gb808,5,none⟩=some (.int .i64 t812):=(blk_cell BK808.out 5).trans rfl; have hcz22_6:w20.cell? ⟨gb808,6,none⟩=some (.int .i64 t813):=(blk_cell BK808.out 6).trans rfl; have hcz22_7:w20.cell? ⟨gb808,7,none⟩=some (.int .i64 t814):=(blk_cell BK808.out 7).trans rfl; have hcz22_8:w20.cell? ⟨gb808,8,none⟩=some (.int .i64 t815):=(blk_cell BK808.out 8).trans rfl; have hcz22_9:w20.cell? ⟨gb808,9,none⟩=some (.slice none 0 0):=(blk_cell BK808.out 9).trans rfl; have hfz22_0:=blk_frozen BK808.out 0; have hfz22_1:=blk_frozen BK808.out 1; have hfz22_2:=blk_frozen BK808.out 2; have hfz22_3:=blk_frozen BK808.out 3; have hfz22_4:=blk_frozen BK808.out 4; have hfz22_5:=blk_frozen BK808.out 5; have hfz22_6:=blk_frozen BK808.out 6; have hfz22_7:=blk_frozen BK808.out 7; have hfz22_8:=blk_frozen BK808.out 8; have hfz22_9:=blk_frozen BK808.out 9; have hcz23_0:w20.cell? ⟨gb807,0,none⟩=some (.string (⟨#[]⟩:ByteArray)):=(blk_cell BK807.out 0).trans rfl; have hcz23_1:w20.cell? ⟨gb807,1,none⟩=some (.string (⟨#[]⟩:ByteArray)):=(blk_cell BK807.out 1).trans rfl; have hcz23_2:w20.cell? ⟨gb807,2,none⟩=some (.int .i64 0):=(blk_cell BK807.out 2).trans rfl; have hcz23_3:w20.cell? ⟨gb807,3,none⟩=some (.int .i64 0):=(blk_cell BK807.out 3).trans rfl; have hcz23_4:w20.cell? ⟨gb807,4,none⟩=some (.slice none 0 0):=(blk_cell BK807.out 4).trans rfl; have hcz23_5:w20.cell? ⟨gb807,5,none⟩=some (.int .i64 0):=(blk_cell BK807.out 5).trans rfl; have hcz23_6:w20.cell? ⟨gb807,6,none⟩=some (.int .i64 0):=(blk_cell BK807.out 6).trans rfl; have hcz23_7:w20.cell? ⟨gb807,7,none⟩=some (.int .i64 0):=(blk_cell BK807.out 7).trans rfl; have hcz23_8:w20.cell? ⟨gb807,8,none⟩=some (.int .i64 0):=(blk_cell BK807.out 8).trans rfl; have hcz23_9:w20.cell? ⟨gb807,9,none⟩=some (.slice none 0 0):=(blk_cell BK807.out 9).trans rfl; have hfz23_0:=blk_frozen BK807.out 0; have hfz23_1:=blk_frozen BK807.out 1; have hfz23_2:=blk_frozen BK807.out 2; have hfz23_3:=blk_frozen BK807.out 3; have hfz23_4:=blk_frozen BK807.out 4; have hfz23_5:=blk_frozen BK807.out 5; have hfz23_6:=blk_frozen BK807.out 6; have hfz23_7:=blk_frozen BK807.out 7; have hfz23_8:=blk_frozen BK807.out 8; have hfz23_9:=blk_frozen BK807.out 9))
 refine bodyPost_ret (results_cell_row rfl _ _ gb807 50 #[.string a0_0,.string a0_1,.int .i64 a0_2,.int .i64 a0_3,.slice Ao14 t809.length co14,.int .i64 t812,.int .i64 t813,.int .i64 t814,.int .i64 t815,.slice Ao21 t816.length co21] (0,0) _ rfl (by (with_reducible repeat (first|refine blk_drewN ?_ _|refine blk_drew ?_|refine blk_alloc ?_ _)); refine blk_put (cs:=#[.string a0_0,.string a0_1,.int .i64 a0_2,.int .i64 a0_3,.slice Ao14 t809.length co14,.int .i64 t812,.int .i64 t813,.int .i64 t814,.int .i64 t815,.slice none 0 0]) ?_ 9 _ rfl; (with_reducible repeat (first|refine blk_drewN ?_ _|refine blk_drew ?_|refine blk_alloc ?_ _)); refine blk_put (cs:=#[.string a0_0,.string a0_1,.int .i64 a0_2,.int .i64 a0_3,.slice Ao14 t809.length co14,.int .i64 t812,.int .i64 t813,.int .i64 t814,.int .i64 0,.slice none 0 0]) ?_ 8 _ rfl; (with_reducible repeat (first|refine blk_drewN ?_ _|refine blk_drew ?_|refine blk_alloc ?_ _)); refine blk_put (cs:=#[.string a0_0,.string a0_1,.int .i64 a0_2,.int .i64 a0_3,.slice Ao14 t809.length co14,.int .i64 t812,.int .i64 t813,.int .i64 0,.int .i64 0,.slice none 0 0]) ?_ 7 _ rfl; (with_reducible repeat (first|refine blk_drewN ?_ _|refine blk_drew ?_|refine blk_alloc ?_ _)); refine blk_put (cs:=#[.string a0_0,.string a0_1,.int .i64 a0_2,.int .i64 a0_3,.slice Ao14 t809.length co14,.int .i64 t812,.int .i64 0,.int .i64 0,.int .i64 0,.slice none 0 0]) ?_ 6 _ rfl; (with_reducible repeat (first|refine blk_drewN ?_ _|refine blk_drew ?_|refine blk_alloc ?_ _)); refine blk_put (cs:=#[.string a0_0,.string a0_1,.int .i64 a0_2,.int .i64 a0_3,.slice Ao14 t809.length co14,.int .i64 0,.int .i64 0,.int .i64 0,.int .i64 0,.slice none 0 0]) ?_ 5 _ rfl; (with_reducible repeat (first|refine blk_drewN ?_ _|refine blk_drew ?_|refine blk_alloc ?_ _)); refine blk_put (cs:=#[.string a0_0,.string a0_1,.int .i64 a0_2,.int .i64 a0_3,.slice none 0 0,.int .i64 0,.int .i64 0,.int .i64 0,.int .i64 0,.slice none 0 0]) ?_ 4 _ rfl; (with_reducible repeat (first|refine blk_drewN ?_ _|refine blk_drew ?_|refine blk_alloc ?_ _)); refine blk_put (cs:=#[.string a0_0,.string a0_1,.int .i64 a0_2,.int .i64 0,.slice none 0 0,.int .i64 0,.int .i64 0,.int .i64 0,.int .i64 0,.slice none 0 0]) ?_ 3 _ rfl; (with_reducible repeat (first|refine blk_drewN ?_ _|refine blk_drew ?_|refine blk_alloc ?_ _)); refine blk_put (cs:=#[.string a0_0,.string a0_1,.int .i64 0,.int .i64 0,.slice none 0 0,.int .i64 0,.int .i64 0,.int .i64 0,.int .i64 0,.slice none 0 0]) ?_ 2 _ rfl; (with_reducible repeat (first|refine blk_drewN ?_ _|refine blk_drew ?_|refine blk_alloc ?_ _)); refine blk_put (cs:=#[.string a0_0,.string (⟨#[]⟩:ByteArray),.int .i64 0,.int .i64 0,.slice none 0 0,.int .i64 0,.int .i64 0,.int .i64 0,.int .i64 0,.slice none 0 0]) ?_ 1 _ rfl; (with_reducible repeat (first|refine blk_drewN ?_ _|refine blk_drew ?_|refine blk_alloc ?_ _)); refine blk_put (cs:=#[.string (⟨#[]⟩:ByteArray),.string (⟨#[]⟩:ByteArray),.int .i64 0,.int .i64 0,.slice none 0 0,.int .i64 0,.int .i64 0,.int .i64 0,.int .i64 0,.slice none 0 0]) ?_ 0 _ rfl; (with_reducible repeat (first|refine blk_drewN ?_ _|refine blk_drew ?_|refine blk_alloc ?_ _)); refine blk_far ?_ NB807_808.out _; (with_reducible repeat (first|refine blk_drewN ?_ _|refine blk_drew ?_|refine blk_alloc ?_ _)); exact BK807.out) Tryz.underlying50 rfl (by kernel_rfl)) rfl ?_
 exact ⟨_,_,by first|rfl|(simp [errW_none,errW_some]<;>rfl)|(simp [*,errW_none,errW_some]<;>rfl),by (with_reducible repeat (first|apply Kd.R_alloc|apply Kd.R_drewN|apply Kd.R_drew)); exact Kd.R_mono (Kd.R_far (p:=⟨gb807,9,none⟩) (Kd.R_far (p:=⟨gb807,8,none⟩) (Kd.R_far (p:=⟨gb807,7,none⟩) (Kd.R_far (p:=⟨gb807,6,none⟩) (Kd.R_far (p:=⟨gb807,5,none⟩) (Kd.R_far (p:=⟨gb807,4,none⟩) (Kd.R_far (p:=⟨gb807,3,none⟩) (Kd.R_far (p:=⟨gb807,2,none⟩) (Kd.R_far (p:=⟨gb807,1,none⟩) (Kd.R_far (p:=⟨gb807,0,none⟩) (Kd.R_far (p:=⟨gb808,9,none⟩) (Kd.R_types (Kd.R_types HO811.out BK808.out (by decide)) BK807.out (by decide)) (fun _ hk=>hk.1.2) (.slice Ao21 t816.length co21)) (fun _ hk=>hk.2) (.string a0_0)) (fun _ hk=>hk.2) (.string a0_1)) (fun _ hk=>hk.2) (.int .i64 a0_2)) (fun _ hk=>hk.2) (.int .i64 a0_3)) (fun _ hk=>hk.2) (.slice Ao14 t809.length co14)) (fun _ hk=>hk.2) (.int .i64 t812)) (fun _ hk=>hk.2) (.int .i64 t813)) (fun _ hk=>hk.2) (.int .i64 t814)) (fun _ hk=>hk.2) (.int .i64 t815)) (fun _ hk=>hk.2) (.slice Ao21 t816.length co21)) (fun _ hk=>trivial),by (with_reducible repeat (first|apply Kd.R_alloc|apply Kd.R_drewN|apply Kd.R_drew)); exact Kd.R_mono (Kd.R_far (p:=⟨gb807,9,none⟩) (Kd.R_far (p:=⟨gb807,8,none⟩) (Kd.R_far (p:=⟨gb807,7,none⟩) (Kd.R_far (p:=⟨gb807,6,none⟩) (Kd.R_far (p:=⟨gb807,5,none⟩) (Kd.R_far (p:=⟨gb807,4,none⟩) (Kd.R_far (p:=⟨gb807,3,none⟩) (Kd.R_far (p:=⟨gb807,2,none⟩) (Kd.R_far (p:=⟨gb807,1,none⟩) (Kd.R_far (p:=⟨gb807,0,none⟩) (Kd.R_far (p:=⟨gb808,9,none⟩) (Kd.R_types (Kd.R_types HO818.out BK808.out (by decide)) BK807.out (by decide)) (fun _ hk=>hk.1.2) (.slice Ao21 t816.length co21)) (fun _ hk=>hk.2) (.string a0_0)) (fun _ hk=>hk.2) (.string a0_1)) (fun _ hk=>hk.2) (.int .i64 a0_2)) (fun _ hk=>hk.2) (.int .i64 a0_3)) (fun _ hk=>hk.2) (.slice Ao14 t809.length co14)) (fun _ hk=>hk.2) (.int .i64 t812)) (fun _ hk=>hk.2) (.int .i64 t813)) (fun _ hk=>hk.2) (.int .i64 t814)) (fun _ hk=>hk.2) (.int .i64 t815)) (fun _ hk=>hk.2) (.slice Ao21 t816.length co21)) (fun _ hk=>trivial),by repeat (first|(with_reducible first|exact HB.out|apply below_alloc|apply pw_below_drewN|apply below_drew1|refine below_set ?_ GE806.out|refine below_set ?_ GE807.out|refine below_set ?_ GE808.out)|exact HB.out)⟩
def laws_markMetricS.l0:Nat→List (S61)→Int→Int→Option (Int × (List (S61)))
 |0,_,_,_=>none
 |k+1,x0,x1,x5=>if x5<(x0.length:Int) then ((laws_markText.f k x1).bind fun t419=>(if 0≤x5 then ((some (x0.set (x5:Int).toNat (⟨t419,(rd_T61 x0 x5).f1,(rd_T61 x0 x5).f2⟩:S61):List (S61))).bind fun y420=>((some (y420.set (x5:Int).toNat (⟨(rd_T61 y420 x5).f0,wrap64 (x1+1),(rd_T61 y420 x5).f2⟩:S61):List (S61))).bind fun y421=>(laws_markMetricS.l0 k (y421.set (x5:Int).toNat (⟨(rd_T61 y421 x5).f0,(rd_T61 y421 x5).f1,wrap64 ((wrap64 (x1+1))+1)⟩:S61)) (wrap64 ((wrap64 ((wrap64 (x1+1))+1))+1)) (wrap64 (x5+1))))) else (none))) else (some (x1,x0))
def laws_markMetricS.f (k:Nat) (l0:List (S61)) (a1:Int):Option (Int × (List (S61))):=laws_markMetricS.l0 k l0 a1 0
set_option maxHeartbeats 8000000 in
set_option maxRecDepth 100000 in
theorem laws_markMetricS.calls (k:Nat) (P0_:Nat→Prop) (u9000_:Value) (l0:List (S61)) (a1:Int) (r1:Int) (r2:List (S61)) (w0 w:World) (hB:Below w0.heap.size w0 w) (ho0:Kd.R k61 61 w w0.heap.size P0_ u9000_ l0) (h:laws_markMetricS.f k l0 a1=some (r1,r2)) :
  Calls Tryz.prog 15 #[u9000_,.int .i64 a1] w fun e w'=>e=.returned (.int .i64 r1)∧Kd.R k61 61 w' w0.heap.size (fun k_=>(P0_ k_ ∨ w.heap.size≤k_)) u9000_ r2∧Below w0.heap.size w0 w'∧Kept w w' (fun k_=>P0_ k_):=by
 have HO0:=Aside0.mk (show Kd.R k61 61 w w0.heap.size (fun k_=>(P0_ k_ ∨ w.heap.size≤k_)) u9000_ l0 from Kd.R_mono ho0 (fun k_ hk=>(.inl hk)))
 have HK:=Aside0.mk (Kept.refl w (fun k_=>P0_ k_))
 have HW0:=Aside0.mk hB.size
 have HB:=Aside0.mk hB
 clear hB
 have H:(laws_markMetricS.l0 k l0 a1 0)=some (r1,r2):=h
 clear h
 have H':=Aside0.mk H
 clear H
 go_enter Tryz.func15,Tryz.ntmps15
 go_wp2
 go_loopg [1,5] k (fun kq v1 v5 w'=>∃ (x0_1:List (S61)) (x1_1:Int) (x5_1:Int),v1=.int .i64 x1_1∧v5=.int .i64 x5_1∧Aside0 (laws_markMetricS.l0 kq x0_1 x1_1 x5_1=some (r1,r2))∧Aside0 (kq≤k)∧Aside0 (Kd.R k61 61 w' w0.heap.size (fun k_=>(P0_ k_ ∨ w.heap.size≤k_)) u9000_ x0_1)∧Aside0 (Kept w w' (fun k_=>P0_ k_))∧Aside0 (Below w0.heap.size w0 w'))
 case atStart=>exact ⟨(l0),(a1),(0),(by first|rfl|(simp; done)|(simp [*]; done)),(by first|rfl|(simp; done)|(simp [*]; done)),H',⟨Nat.le_refl _⟩,⟨by (with_reducible repeat (first|apply Kd.R_alloc|apply Kd.R_drewN|apply Kd.R_drew)); exact HO0.out⟩,⟨by repeat (first|(with_reducible first|exact HK.out|apply Kept.alloc|apply Kept.drewN|apply Kept.drew)|exact HK.out)⟩,⟨by repeat (first|(with_reducible first|exact HB.out|apply below_alloc|apply pw_below_drewN|apply below_drew1)|exact HB.out)⟩⟩
 case round =>
  clear H'
  try clear c1
  try clear p2
  obtain ⟨x0_1,x1_1,x5_1,rfl,rfl,HA,HK1,HO_0,HK,HB⟩:=hrel
  cases gk with
  |zero=>exact absurd HA.out (by simp [laws_markMetricS.l0])
  |succ k1 =>
   have H:=HA.out
   clear HA
   simp only [laws_markMetricS.l0] at H
   by_cases c3:x5_1<(x0_1.length:Int)
   ·rw [if_pos c3] at H
    have c3b0:decide (x5_1<(x0_1.length:Int))=true:=decide_eq_true c3
    clear c3
    replace H:=Option.bind_eq_some_iff.mp H
    obtain ⟨t419,A40,H⟩:=H
    replace H:(if 0≤x5_1 then ((some (x0_1.set (x5_1:Int).toNat (⟨t419,(rd_T61 x0_1 x5_1).f1,(rd_T61 x0_1 x5_1).f2⟩:S61):List (S61))).bind fun y420=>((some (y420.set (x5_1:Int).toNat (⟨(rd_T61 y420 x5_1).f0,wrap64 (x1_1+1),(rd_T61 y420 x5_1).f2⟩:S61):List (S61))).bind fun y421=>(laws_markMetricS.l0 k1 (y421.set (x5_1:Int).toNat (⟨(rd_T61 y421 x5_1).f0,(rd_T61 y421 x5_1).f1,wrap64 ((wrap64 (x1_1+1))+1)⟩:S61)) (wrap64 ((wrap64 ((wrap64 (x1_1+1))+1))+1)) (wrap64 (x5_1+1))))) else (none))=some (r1,r2):=H
    have A4:=Aside0.mk A40
    clear A40
    by_cases c5:0≤x5_1
    ·rw [if_pos c5] at H
     have c5b0:decide (0≤x5_1)=true:=decide_eq_true c5
     clear c5
     obtain ⟨y420,hy420⟩:∃ y_:List (S61),y_=(x0_1.set (x5_1:Int).toNat (⟨t419,(rd_T61 x0_1 x5_1).f1,(rd_T61 x0_1 x5_1).f2⟩:S61)):=⟨_,rfl⟩
     replace H:((some (y420.set (x5_1:Int).toNat (⟨(rd_T61 y420 x5_1).f0,wrap64 (x1_1+1),(rd_T61 y420 x5_1).f2⟩:S61):List (S61))).bind fun y421=>(laws_markMetricS.l0 k1 (y421.set (x5_1:Int).toNat (⟨(rd_T61 y421 x5_1).f0,(rd_T61 y421 x5_1).f1,wrap64 ((wrap64 (x1_1+1))+1)⟩:S61)) (wrap64 ((wrap64 ((wrap64 (x1_1+1))+1))+1)) (wrap64 (x5_1+1))))=some (r1,r2):=by first|(rw [hy420]; with_reducible exact H)|(have H2_:=(Option.bind_some _ _).symm.trans H; rw [hy420]; with_reducible exact H2_)|(have H2_:=(Option.bind_some _ _).symm.trans H; with_reducible exact H2_)|with_reducible exact H|(rw [hy420]; exact H)|exact H
     have Ny420:=Aside0.mk hy420
     clear hy420
     obtain ⟨y421,hy421⟩:∃ y_:List (S61),y_=(y420.set (x5_1:Int).toNat (⟨(rd_T61 y420 x5_1).f0,wrap64 (x1_1+1),(rd_T61 y420 x5_1).f2⟩:S61)):=⟨_,rfl⟩
     replace H:(laws_markMetricS.l0 k1 (y421.set (x5_1:Int).toNat (⟨(rd_T61 y421 x5_1).f0,(rd_T61 y421 x5_1).f1,wrap64 ((wrap64 (x1_1+1))+1)⟩:S61)) (wrap64 ((wrap64 ((wrap64 (x1_1+1))+1))+1)) (wrap64 (x5_1+1)))=some (r1,r2):=by first|(rw [hy421]; with_reducible exact H)|(have H2_:=(Option.bind_some _ _).symm.trans H; rw [hy421]; with_reducible exact H2_)|(have H2_:=(Option.bind_some _ _).symm.trans H; with_reducible exact H2_)|with_reducible exact H|(rw [hy421]; exact H)|exact H
     have Ny421:=Aside0.mk hy421
     clear hy421
     obtain ⟨y422,hy422⟩:∃ y_:List (S61),y_=(y421.set (x5_1:Int).toNat (⟨(rd_T61 y421 x5_1).f0,(rd_T61 y421 x5_1).f1,wrap64 ((wrap64 (x1_1+1))+1)⟩:S61)):=⟨_,rfl⟩
     replace H:(laws_markMetricS.l0 k1 y422 (wrap64 ((wrap64 ((wrap64 (x1_1+1))+1))+1)) (wrap64 (x5_1+1)))=some (r1,r2):=by first|(rw [hy422]; with_reducible exact H)|(have H2_:=(Option.bind_some _ _).symm.trans H; rw [hy422]; with_reducible exact H2_)|(have H2_:=(Option.bind_some _ _).symm.trans H; with_reducible exact H2_)|with_reducible exact H|(rw [hy422]; exact H)|exact H
     have Ny422:=Aside0.mk hy422
     clear hy422
     have H':=Aside0.mk H
     clear H
     obtain ⟨Ao9,co9,eo9⟩:=Kd.R_slice HO_0.out
     subst eo9
     go_wp2_with (first|((with_reducible refine gate_callee (f:=50) rfl ?_); refine goesL_ (some 15) rfl rfl Tryz.func50 (by kernel_rfl) rfl #[.int .i64 x1_1] rfl (by (try simp only [List.map_toArray,List.map_cons,List.map_nil]); first|done|rfl|(simp only [List.length_drop,List.length_take]; rfl)) ?_; (with_reducible refine (laws_markText.calls k1 x1_1 t419 _ A4.out).mono ?_); rintro e w10 ⟨rfl,hb⟩; refine ⟨_,rfl,?_⟩; have n0_:=Aside0.mk (Kd.R_below (by (with_reducible repeat (first|apply Kd.R_alloc|apply Kd.R_drewN|apply Kd.R_drew)); exact HO_0.out) hb); have n1_:=Aside0.mk (Kept.below (S:=(fun k_=>P0_ k_)) (by repeat (first|(with_reducible first|exact HK.out|apply Kept.alloc|apply Kept.drewN|apply Kept.drew)|exact HK.out)) hb); have n2_:=Aside0.mk (below_step (by repeat (first|(with_reducible first|exact HB.out|apply below_alloc|apply pw_below_drewN|apply below_drew1)|exact HB.out)) hb); clear HO_0; clear HK; clear HB; have HO_0:=n0_; have HK:=n1_; have HB:=n2_; clear n0_ n1_ n2_; (try clear hb); (try clear hb2); (try clear hk); (try clear hi); have p6:0≤(x5_1:Int):=of_decide_eq_true (by first|(with_reducible assumption)|assumption); have q6:(x5_1:Int)<((x0_1.length:Int):Int):=of_decide_eq_true (by first|(with_reducible assumption)|assumption); obtain ⟨go6,co6,eo6,gb6,gl6,cl6,HG6⟩:=Kd.R_form HO_0.out (by omega); (first|cases eo6|(injection eo6 with ea_ en_ ec_; (first|subst ea_|(injection ea_ with ea_; subst ea_)); subst ec_; clear en_)); have GB6:=Aside0.mk gb6; have GG6:=Aside0.mk HG6; clear gb6 gl6 HG6; have HMgo6:=Aside0.mk (show (P0_ go6 ∨ w.heap.size≤go6) from (HO_0.out.1 _ rfl)); obtain ⟨ce6,hcl6,hM6,hcc6,hfr6⟩:=Kd.R_elem HO_0.out z61 (x5_1:Int) p6 q6; obtain rfl:=k61_openM hM6; have hx6_0:w10.cell? ⟨go6,(x5_1:Int).toNat*3,none⟩=some (.string ((rd_T61 x0_1 x5_1).f0)):=hcc6 0 _ rfl; have hx6_1:w10.cell? ⟨go6,(x5_1:Int).toNat*3+1,none⟩=some (.int .i64 ((rd_T61 x0_1 x5_1).f1)):=hcc6 1 _ rfl; have hx6_2:w10.cell? ⟨go6,(x5_1:Int).toNat*3+2,none⟩=some (.int .i64 ((rd_T61 x0_1 x5_1).f2)):=hcc6 2 _ rfl; have hf6_0:w10.frozen? ⟨go6,(x5_1:Int).toNat*3,none⟩=false:=hfr6 0; have hf6_1:w10.frozen? ⟨go6,(x5_1:Int).toNat*3+1,none⟩=false:=hfr6 1; have hf6_2:w10.frozen? ⟨go6,(x5_1:Int).toNat*3+2,none⟩=false:=hfr6 2; clear hcl6 hcc6 hfr6 hM6; replace p6:=eq_true p6; replace q6:=eq_true q6; have HX11:=Aside0.mk (show Kd.R k61 61 w10 w0.heap.size (fun k_=>(P0_ k_ ∨ w.heap.size≤k_)) (.slice (some ⟨go6,0,none⟩) x0_1.length co9) x0_1 from (by (with_reducible repeat (first|apply Kd.R_alloc|apply Kd.R_drewN|apply Kd.R_drew)); exact HO_0.out)); obtain ⟨ce11,hcl11,hM11,hcc11,hfr11⟩:=Kd.R_elem HX11.out z61 (x5_1:Int) (of_decide_eq_true (by first|(with_reducible assumption)|assumption)) (by have h_:(x5_1:Int)<((x0_1.length:Int):Int):=of_decide_eq_true (by first|(with_reducible assumption)|assumption); first|exact h_|(have e_:=(Kd.R_reads' HO_0.out).1; omega)|simpa using h_); obtain rfl:=k61_openM hM11; have HP11:=Kd.R_seg HX11.out (x5_1:Int) (of_decide_eq_true (by first|(with_reducible assumption)|assumption)) (by have h_:(x5_1:Int)<((x0_1.length:Int):Int):=of_decide_eq_true (by first|(with_reducible assumption)|assumption); first|exact h_|(have e_:=(Kd.R_reads' HO_0.out).1; omega)|simpa using h_) (seg:=[.string t419]) (j:=0) hcl11 hcc11 (show 1≤3 from by decide) (x':=(⟨t419,(rd_T61 x0_1 x5_1).f1,(rd_T61 x0_1 x5_1).f2⟩:S61)) (k61_mkM _ _ _ (⟨t419,(rd_T61 x0_1 x5_1).f1,(rd_T61 x0_1 x5_1).f2⟩:S61) ) (fun _ hk=>hk); have hx11_0:=hcc11 0 _ rfl; (try simp only [show (k61).sz=3 from rfl,Nat.mul_one,Nat.add_zero] at hx11_0); have hf11_0:=hfr11 0; (try simp only [show (k61).sz=3 from rfl,Nat.mul_one,Nat.add_zero] at hf11_0); clear hcl11 hcc11 hfr11 hM11)|((with_reducible refine gate_store (t:=9) (p:=17) rfl ?_); refine store_event (t:=9) (p:=17) (v:=?vo_w12) (w1:=(w10.setCell ⟨go6,(x5_1:Int).toNat*3,none⟩ (.string t419))) ?hg ?ho ?hn ?hr ?_; (case ho=>rfl); (case hg=>rfl); (case hn=>rfl); (case hr=>first|(go_simp; done)|(go_simp; rfl)); intro w12 hw; have hg:w10.grownBy w12 (some go6):=(by rw [hw]; exact HP11.2); have hp_:Kd.R k61 61 w12 w0.heap.size (fun k_=>(P0_ k_ ∨ w.heap.size≤k_)) (.slice (some ⟨go6,0,none⟩) x0_1.length co9) y420:=(by rw [hw,Ny420.out]; exact HP11.1); clear HP11; have n0_:=Aside0.mk (hp_); have n1_:=Aside0.mk ((by rw [hw]; exact below_set (HB.out) GB6.out:Below w0.heap.size w0 w12)); have n2_:=Aside0.mk (Kept.of_grown (S:=(fun k_=>P0_ k_)) hg (by repeat (first|(with_reducible first|exact HK.out|apply Kept.alloc|apply Kept.drewN|apply Kept.drew)|exact HK.out)) (fun k_ e_=>(HO_0.out.1 k_ e_))); clear HO_0; clear HB; clear HK; have HO_0:=n0_; have HB:=n1_; have HK:=n2_; clear n0_ n1_ n2_; clear hg hw hp_; have p7:0≤(x5_1:Int):=of_decide_eq_true (by first|(with_reducible assumption)|assumption); have q7:(x5_1:Int)<((x0_1.length:Int):Int):=of_decide_eq_true (by first|(with_reducible assumption)|assumption); obtain ⟨ce7,hcl7,hM7,hcc7,hfr7⟩:=Kd.R_elem HO_0.out z61 (x5_1:Int) p7 q7; obtain rfl:=k61_openM hM7; have hx7_0:w12.cell? ⟨go6,(x5_1:Int).toNat*3,none⟩=some (.string ((rd_T61 y420 x5_1).f0)):=hcc7 0 _ rfl; have hx7_1:w12.cell? ⟨go6,(x5_1:Int).toNat*3+1,none⟩=some (.int .i64 ((rd_T61 y420 x5_1).f1)):=hcc7 1 _ rfl; have hx7_2:w12.cell? ⟨go6,(x5_1:Int).toNat*3+2,none⟩=some (.int .i64 ((rd_T61 y420 x5_1).f2)):=hcc7 2 _ rfl; have hf7_0:w12.frozen? ⟨go6,(x5_1:Int).toNat*3,none⟩=false:=hfr7 0; have hf7_1:w12.frozen? ⟨go6,(x5_1:Int).toNat*3+1,none⟩=false:=hfr7 1; have hf7_2:w12.frozen? ⟨go6,(x5_1:Int).toNat*3+2,none⟩=false:=hfr7 2; clear hcl7 hcc7 hfr7 hM7; replace p7:=eq_true p7; replace q7:=eq_true q7; have HX13:=Aside0.mk (show Kd.R k61 61 w12 w0.heap.size (fun k_=>(P0_ k_ ∨ w.heap.size≤k_)) (.slice (some ⟨go6,0,none⟩) x0_1.length co9) y420 from (by (with_reducible repeat (first|apply Kd.R_alloc|apply Kd.R_drewN|apply Kd.R_drew)); exact HO_0.out)); obtain ⟨ce13,hcl13,hM13,hcc13,hfr13⟩:=Kd.R_elem HX13.out z61 (x5_1:Int) (of_decide_eq_true (by first|(with_reducible assumption)|assumption)) (by have h_:(x5_1:Int)<((x0_1.length:Int):Int):=of_decide_eq_true (by first|(with_reducible assumption)|assumption); first|exact h_|(have e_:=(Kd.R_reads' HO_0.out).1; omega)|simpa using h_); obtain rfl:=k61_openM hM13; have HP13:=Kd.R_seg HX13.out (x5_1:Int) (of_decide_eq_true (by first|(with_reducible assumption)|assumption)) (by have h_:(x5_1:Int)<((x0_1.length:Int):Int):=of_decide_eq_true (by first|(with_reducible assumption)|assumption); first|exact h_|(have e_:=(Kd.R_reads' HO_0.out).1; omega)|simpa using h_) (seg:=[.int .i64 (wrap64 (x1_1+1))]) (j:=1) hcl13 hcc13 (show 2≤3 from by decide) (x':=(⟨(rd_T61 y420 x5_1).f0,wrap64 (x1_1+1),(rd_T61 y420 x5_1).f2⟩:S61)) (k61_mkM _ _ _ (⟨(rd_T61 y420 x5_1).f0,wrap64 (x1_1+1),(rd_T61 y420 x5_1).f2⟩:S61) ) (fun _ hk=>hk); have hx13_1:=hcc13 1 _ rfl; (try simp only [show (k61).sz=3 from rfl,Nat.mul_one,Nat.add_zero] at hx13_1); have hf13_1:=hfr13 1; (try simp only [show (k61).sz=3 from rfl,Nat.mul_one,Nat.add_zero] at hf13_1); clear hcl13 hcc13 hfr13 hM13)|((with_reducible refine gate_store (t:=3) (p:=24) rfl ?_); refine store_event (t:=3) (p:=24) (v:=?vo_w14) (w1:=(w12.setCell ⟨go6,(x5_1:Int).toNat*3+1,none⟩ (.int .i64 (wrap64 (x1_1+1))))) ?hg ?ho ?hn ?hr ?_; (case ho=>rfl); (case hg=>rfl); (case hn=>rfl); (case hr=>first|(go_simp; done)|(go_simp; rfl)); intro w14 hw; have hg:w12.grownBy w14 (some go6):=(by rw [hw]; exact HP13.2); have hp_:Kd.R k61 61 w14 w0.heap.size (fun k_=>(P0_ k_ ∨ w.heap.size≤k_)) (.slice (some ⟨go6,0,none⟩) x0_1.length co9) y421:=(by rw [hw,Ny421.out]; exact HP13.1); clear HP13; have n0_:=Aside0.mk (hp_); have n1_:=Aside0.mk ((by rw [hw]; exact below_set (HB.out) GB6.out:Below w0.heap.size w0 w14)); have n2_:=Aside0.mk (Kept.of_grown (S:=(fun k_=>P0_ k_)) hg (by repeat (first|(with_reducible first|exact HK.out|apply Kept.alloc|apply Kept.drewN|apply Kept.drew)|exact HK.out)) (fun k_ e_=>(HO_0.out.1 k_ e_))); clear HO_0; clear HB; clear HK; have HO_0:=n0_; have HB:=n1_; have HK:=n2_; clear n0_ n1_ n2_; clear hg hw hp_; have p8:0≤(x5_1:Int):=of_decide_eq_true (by first|(with_reducible assumption)|assumption); have q8:(x5_1:Int)<((x0_1.length:Int):Int):=of_decide_eq_true (by first|(with_reducible assumption)|assumption); obtain ⟨ce8,hcl8,hM8,hcc8,hfr8⟩:=Kd.R_elem HO_0.out z61 (x5_1:Int) p8 q8; obtain rfl:=k61_openM hM8; have hx8_0:w14.cell? ⟨go6,(x5_1:Int).toNat*3,none⟩=some (.string ((rd_T61 y421 x5_1).f0)):=hcc8 0 _ rfl; have hx8_1:w14.cell? ⟨go6,(x5_1:Int).toNat*3+1,none⟩=some (.int .i64 ((rd_T61 y421 x5_1).f1)):=hcc8 1 _ rfl; have hx8_2:w14.cell? ⟨go6,(x5_1:Int).toNat*3+2,none⟩=some (.int .i64 ((rd_T61 y421 x5_1).f2)):=hcc8 2 _ rfl; have hf8_0:w14.frozen? ⟨go6,(x5_1:Int).toNat*3,none⟩=false:=hfr8 0; have hf8_1:w14.frozen? ⟨go6,(x5_1:Int).toNat*3+1,none⟩=false:=hfr8 1; have hf8_2:w14.frozen? ⟨go6,(x5_1:Int).toNat*3+2,none⟩=false:=hfr8 2; clear hcl8 hcc8 hfr8 hM8; replace p8:=eq_true p8; replace q8:=eq_true q8; have HX15:=Aside0.mk (show Kd.R k61 61 w14 w0.heap.size (fun k_=>(P0_ k_ ∨ w.heap.size≤k_)) (.slice (some ⟨go6,0,none⟩) x0_1.length co9) y421 from (by (with_reducible repeat (first|apply Kd.R_alloc|apply Kd.R_drewN|apply Kd.R_drew)); exact HO_0.out)); obtain ⟨ce15,hcl15,hM15,hcc15,hfr15⟩:=Kd.R_elem HX15.out z61 (x5_1:Int) (of_decide_eq_true (by first|(with_reducible assumption)|assumption)) (by have h_:(x5_1:Int)<((x0_1.length:Int):Int):=of_decide_eq_true (by first|(with_reducible assumption)|assumption); first|exact h_|(have e_:=(Kd.R_reads' HO_0.out).1; omega)|simpa using h_); obtain rfl:=k61_openM hM15; have HP15:=Kd.R_seg HX15.out (x5_1:Int) (of_decide_eq_true (by first|(with_reducible assumption)|assumption)) (by have h_:(x5_1:Int)<((x0_1.length:Int):Int):=of_decide_eq_true (by first|(with_reducible assumption)|assumption); first|exact h_|(have e_:=(Kd.R_reads' HO_0.out).1; omega)|simpa using h_) (seg:=[.int .i64 (wrap64 ((wrap64 (x1_1+1))+1))]) (j:=2) hcl15 hcc15 (show 3≤3 from by decide) (x':=(⟨(rd_T61 y421 x5_1).f0,(rd_T61 y421 x5_1).f1,wrap64 ((wrap64 (x1_1+1))+1)⟩:S61)) (k61_mkM _ _ _ (⟨(rd_T61 y421 x5_1).f0,(rd_T61 y421 x5_1).f1,wrap64 ((wrap64 (x1_1+1))+1)⟩:S61) ) (fun _ hk=>hk); have hx15_2:=hcc15 2 _ rfl; (try simp only [show (k61).sz=3 from rfl,Nat.mul_one,Nat.add_zero] at hx15_2); have hf15_2:=hfr15 2; (try simp only [show (k61).sz=3 from rfl,Nat.mul_one,Nat.add_zero] at hf15_2); clear hcl15 hcc15 hfr15 hM15)|((with_reducible refine gate_store (t:=3) (p:=31) rfl ?_); refine store_event (t:=3) (p:=31) (v:=?vo_w16) (w1:=(w14.setCell ⟨go6,(x5_1:Int).toNat*3+2,none⟩ (.int .i64 (wrap64 ((wrap64 (x1_1+1))+1))))) ?hg ?ho ?hn ?hr ?_; (case ho=>rfl); (case hg=>rfl); (case hn=>rfl); (case hr=>first|(go_simp; done)|(go_simp; rfl)); intro w16 hw; have hg:w14.grownBy w16 (some go6):=(by rw [hw]; exact HP15.2); have hp_:Kd.R k61 61 w16 w0.heap.size (fun k_=>(P0_ k_ ∨ w.heap.size≤k_)) (.slice (some ⟨go6,0,none⟩) x0_1.length co9) y422:=(by rw [hw,Ny422.out]; exact HP15.1); clear HP15; have n0_:=Aside0.mk (hp_); have n1_:=Aside0.mk ((by rw [hw]; exact below_set (HB.out) GB6.out:Below w0.heap.size w0 w16)); have n2_:=Aside0.mk (Kept.of_grown (S:=(fun k_=>P0_ k_)) hg (by repeat (first|(with_reducible first|exact HK.out|apply Kept.alloc|apply Kept.drewN|apply Kept.drew)|exact HK.out)) (fun k_ e_=>(HO_0.out.1 k_ e_))); clear HO_0; clear HB; clear HK; have HO_0:=n0_; have HB:=n1_; have HK:=n2_; clear n0_ n1_ n2_; clear hg hw hp_))
     go_roundg k1
     case measure=>have:=HK1.out; omega
     case rel=>exact ⟨(y422),(wrap64 ((wrap64 ((wrap64 (x1_1+1))+1))+1)),(wrap64 (x5_1+1)),(by first|rfl|(simp; done)|(simp [*]; done)),(by first|rfl|(simp; done)|(simp [*]; done)),H',⟨by have:=HK1.out; omega⟩,⟨by (with_reducible repeat (first|apply Kd.R_alloc|apply Kd.R_drewN|apply Kd.R_drew)); exact HO_0.out⟩,⟨by repeat (first|(with_reducible first|exact HK.out|apply Kept.alloc|apply Kept.drewN|apply Kept.drew)|exact HK.out)⟩,⟨by repeat (first|(with_reducible first|exact HB.out|apply below_alloc|apply pw_below_drewN|apply below_drew1)|exact HB.out)⟩⟩
    ·rw [if_neg c5] at H
     exact absurd H (by simp)
   ·rw [if_neg c3] at H
    have c3b0:decide (x5_1<(x0_1.length:Int))=false:=decide_eq_false c3
    clear c3
    simp only [Option.some.injEq,Prod.mk.injEq] at H
    obtain ⟨rfl,rfl⟩:=H
    obtain ⟨Ao17,co17,eo17⟩:=Kd.R_slice HO_0.out
    subst eo17
    go_wp2
    go_ret
    exact ⟨by first|rfl|(simp [errW_none,errW_some]<;>rfl)|(simp [*,errW_none,errW_some]<;>rfl),by (with_reducible repeat (first|apply Kd.R_alloc|apply Kd.R_drewN|apply Kd.R_drew)); exact HO_0.out,by repeat (first|(with_reducible first|exact HB.out|apply below_alloc|apply pw_below_drewN|apply below_drew1)|exact HB.out),by repeat (first|(with_reducible first|exact HK.out|apply Kept.alloc|apply Kept.drewN|apply Kept.drew)|exact HK.out)⟩
def laws_markNoteS.l0:Nat→List (S124)→Int→Int→Option (Int × (List (S124)))
 |0,_,_,_=>none
 |k+1,x0,x1,x5=>if x5<(x0.length:Int) then ((laws_markText.f k x1).bind fun t1154=>(if 0≤x5 then ((some (x0.set (x5:Int).toNat (⟨t1154,(rd_T124 x0 x5).f1⟩:S124):List (S124))).bind fun y1155=>((laws_markText.f k (wrap64 (x1+1))).bind fun t1156=>(laws_markNoteS.l0 k (y1155.set (x5:Int).toNat (⟨(rd_T124 y1155 x5).f0,t1156⟩:S124)) (wrap64 ((wrap64 (x1+1))+1)) (wrap64 (x5+1))))) else (none))) else (some (x1,x0))
def laws_markNoteS.f (k:Nat) (l0:List (S124)) (a1:Int):Option (Int × (List (S124))):=laws_markNoteS.l0 k l0 a1 0
set_option maxHeartbeats 8000000 in
set_option maxRecDepth 100000 in
theorem laws_markNoteS.calls (k:Nat) (P0_:Nat→Prop) (u9000_:Value) (l0:List (S124)) (a1:Int) (r1:Int) (r2:List (S124)) (w0 w:World) (hB:Below w0.heap.size w0 w) (ho0:Kd.R k124 124 w w0.heap.size P0_ u9000_ l0) (h:laws_markNoteS.f k l0 a1=some (r1,r2)) :
  Calls Tryz.prog 70 #[u9000_,.int .i64 a1] w fun e w'=>e=.returned (.int .i64 r1)∧Kd.R k124 124 w' w0.heap.size (fun k_=>(P0_ k_ ∨ w.heap.size≤k_)) u9000_ r2∧Below w0.heap.size w0 w'∧Kept w w' (fun k_=>P0_ k_):=by
 have HO0:=Aside0.mk (show Kd.R k124 124 w w0.heap.size (fun k_=>(P0_ k_ ∨ w.heap.size≤k_)) u9000_ l0 from Kd.R_mono ho0 (fun k_ hk=>(.inl hk)))
 have HK:=Aside0.mk (Kept.refl w (fun k_=>P0_ k_))
 have HW0:=Aside0.mk hB.size
 have HB:=Aside0.mk hB
 clear hB
 have H:(laws_markNoteS.l0 k l0 a1 0)=some (r1,r2):=h
 clear h
 have H':=Aside0.mk H
 clear H
 go_enter Tryz.func70,Tryz.ntmps70
 go_wp2
 go_loopg [1,5] k (fun kq v1 v5 w'=>∃ (x0_1:List (S124)) (x1_1:Int) (x5_1:Int),v1=.int .i64 x1_1∧v5=.int .i64 x5_1∧Aside0 (laws_markNoteS.l0 kq x0_1 x1_1 x5_1=some (r1,r2))∧Aside0 (kq≤k)∧Aside0 (Kd.R k124 124 w' w0.heap.size (fun k_=>(P0_ k_ ∨ w.heap.size≤k_)) u9000_ x0_1)∧Aside0 (Kept w w' (fun k_=>P0_ k_))∧Aside0 (Below w0.heap.size w0 w'))
 case atStart=>exact ⟨(l0),(a1),(0),(by first|rfl|(simp; done)|(simp [*]; done)),(by first|rfl|(simp; done)|(simp [*]; done)),H',⟨Nat.le_refl _⟩,⟨by (with_reducible repeat (first|apply Kd.R_alloc|apply Kd.R_drewN|apply Kd.R_drew)); exact HO0.out⟩,⟨by repeat (first|(with_reducible first|exact HK.out|apply Kept.alloc|apply Kept.drewN|apply Kept.drew)|exact HK.out)⟩,⟨by repeat (first|(with_reducible first|exact HB.out|apply below_alloc|apply pw_below_drewN|apply below_drew1)|exact HB.out)⟩⟩
 case round =>
  clear H'
  try clear p2
  obtain ⟨x0_1,x1_1,x5_1,rfl,rfl,HA,HK1,HO_0,HK,HB⟩:=hrel
  cases gk with
  |zero=>exact absurd HA.out (by simp [laws_markNoteS.l0])
  |succ k1 =>
   have H:=HA.out
   clear HA
   simp only [laws_markNoteS.l0] at H
   by_cases c3:x5_1<(x0_1.length:Int)
   ·rw [if_pos c3] at H
    have c3b0:decide (x5_1<(x0_1.length:Int))=true:=decide_eq_true c3
    clear c3
    replace H:=Option.bind_eq_some_iff.mp H
    obtain ⟨t1154,A40,H⟩:=H
    replace H:(if 0≤x5_1 then ((some (x0_1.set (x5_1:Int).toNat (⟨t1154,(rd_T124 x0_1 x5_1).f1⟩:S124):List (S124))).bind fun y1155=>((laws_markText.f k1 (wrap64 (x1_1+1))).bind fun t1156=>(laws_markNoteS.l0 k1 (y1155.set (x5_1:Int).toNat (⟨(rd_T124 y1155 x5_1).f0,t1156⟩:S124)) (wrap64 ((wrap64 (x1_1+1))+1)) (wrap64 (x5_1+1))))) else (none))=some (r1,r2):=H
    have A4:=Aside0.mk A40
    clear A40
    by_cases c5:0≤x5_1
    ·rw [if_pos c5] at H
     have c5b0:decide (0≤x5_1)=true:=decide_eq_true c5
     clear c5
     obtain ⟨y1155,hy1155⟩:∃ y_:List (S124),y_=(x0_1.set (x5_1:Int).toNat (⟨t1154,(rd_T124 x0_1 x5_1).f1⟩:S124)):=⟨_,rfl⟩
     replace H:((laws_markText.f k1 (wrap64 (x1_1+1))).bind fun t1156=>(laws_markNoteS.l0 k1 (y1155.set (x5_1:Int).toNat (⟨(rd_T124 y1155 x5_1).f0,t1156⟩:S124)) (wrap64 ((wrap64 (x1_1+1))+1)) (wrap64 (x5_1+1))))=some (r1,r2):=by first|(rw [hy1155]; with_reducible exact H)|(have H2_:=(Option.bind_some _ _).symm.trans H; rw [hy1155]; with_reducible exact H2_)|(have H2_:=(Option.bind_some _ _).symm.trans H; with_reducible exact H2_)|with_reducible exact H|(rw [hy1155]; exact H)|exact H
     have Ny1155:=Aside0.mk hy1155
     clear hy1155
     replace H:=Option.bind_eq_some_iff.mp H
     obtain ⟨t1156,A70,H⟩:=H
     replace H:(laws_markNoteS.l0 k1 (y1155.set (x5_1:Int).toNat (⟨(rd_T124 y1155 x5_1).f0,t1156⟩:S124)) (wrap64 ((wrap64 (x1_1+1))+1)) (wrap64 (x5_1+1)))=some (r1,r2):=H
     have A7:=Aside0.mk A70
     clear A70
     obtain ⟨y1157,hy1157⟩:∃ y_:List (S124),y_=(y1155.set (x5_1:Int).toNat (⟨(rd_T124 y1155 x5_1).f0,t1156⟩:S124)):=⟨_,rfl⟩
     replace H:(laws_markNoteS.l0 k1 y1157 (wrap64 ((wrap64 (x1_1+1))+1)) (wrap64 (x5_1+1)))=some (r1,r2):=by first|(rw [hy1157]; with_reducible exact H)|(have H2_:=(Option.bind_some _ _).symm.trans H; rw [hy1157]; with_reducible exact H2_)|(have H2_:=(Option.bind_some _ _).symm.trans H; with_reducible exact H2_)|with_reducible exact H|(rw [hy1157]; exact H)|exact H
     have Ny1157:=Aside0.mk hy1157
     clear hy1157
     have H':=Aside0.mk H
     clear H
     obtain ⟨Ao9,co9,eo9⟩:=Kd.R_slice HO_0.out
     subst eo9
     go_wp2_with (first|((with_reducible refine gate_callee (f:=50) rfl ?_); refine goesL_ (some 15) rfl rfl Tryz.func50 (by kernel_rfl) rfl #[.int .i64 x1_1] rfl (by (try simp only [List.map_toArray,List.map_cons,List.map_nil]); first|done|rfl|(simp only [List.length_drop,List.length_take]; rfl)) ?_; (with_reducible refine (laws_markText.calls k1 x1_1 t1154 _ A4.out).mono ?_); rintro e w10 ⟨rfl,hb⟩; refine ⟨_,rfl,?_⟩; have n0_:=Aside0.mk (Kd.R_below (by (with_reducible repeat (first|apply Kd.R_alloc|apply Kd.R_drewN|apply Kd.R_drew)); exact HO_0.out) hb); have n1_:=Aside0.mk (Kept.below (S:=(fun k_=>P0_ k_)) (by repeat (first|(with_reducible first|exact HK.out|apply Kept.alloc|apply Kept.drewN|apply Kept.drew)|exact HK.out)) hb); have n2_:=Aside0.mk (below_step (by repeat (first|(with_reducible first|exact HB.out|apply below_alloc|apply pw_below_drewN|apply below_drew1)|exact HB.out)) hb); clear HO_0; clear HK; clear HB; have HO_0:=n0_; have HK:=n1_; have HB:=n2_; clear n0_ n1_ n2_; (try clear hb); (try clear hb2); (try clear hk); (try clear hi); have p6:0≤(x5_1:Int):=of_decide_eq_true (by first|(with_reducible assumption)|assumption); have q6:(x5_1:Int)<((x0_1.length:Int):Int):=of_decide_eq_true (by first|(with_reducible assumption)|assumption); obtain ⟨go6,co6,eo6,gb6,gl6,cl6,HG6⟩:=Kd.R_form HO_0.out (by omega); (first|cases eo6|(injection eo6 with ea_ en_ ec_; (first|subst ea_|(injection ea_ with ea_; subst ea_)); subst ec_; clear en_)); have GB6:=Aside0.mk gb6; have GG6:=Aside0.mk HG6; clear gb6 gl6 HG6; have HMgo6:=Aside0.mk (show (P0_ go6 ∨ w.heap.size≤go6) from (HO_0.out.1 _ rfl)); obtain ⟨ce6,hcl6,hM6,hcc6,hfr6⟩:=Kd.R_elem HO_0.out z124 (x5_1:Int) p6 q6; obtain rfl:=k124_openM hM6; have hx6_0:w10.cell? ⟨go6,(x5_1:Int).toNat*2,none⟩=some (.string ((rd_T124 x0_1 x5_1).f0)):=hcc6 0 _ rfl; have hx6_1:w10.cell? ⟨go6,(x5_1:Int).toNat*2+1,none⟩=some (.string ((rd_T124 x0_1 x5_1).f1)):=hcc6 1 _ rfl; have hf6_0:w10.frozen? ⟨go6,(x5_1:Int).toNat*2,none⟩=false:=hfr6 0; have hf6_1:w10.frozen? ⟨go6,(x5_1:Int).toNat*2+1,none⟩=false:=hfr6 1; clear hcl6 hcc6 hfr6 hM6; replace p6:=eq_true p6; replace q6:=eq_true q6; have HX11:=Aside0.mk (show Kd.R k124 124 w10 w0.heap.size (fun k_=>(P0_ k_ ∨ w.heap.size≤k_)) (.slice (some ⟨go6,0,none⟩) x0_1.length co9) x0_1 from (by (with_reducible repeat (first|apply Kd.R_alloc|apply Kd.R_drewN|apply Kd.R_drew)); exact HO_0.out)); obtain ⟨ce11,hcl11,hM11,hcc11,hfr11⟩:=Kd.R_elem HX11.out z124 (x5_1:Int) (of_decide_eq_true (by first|(with_reducible assumption)|assumption)) (by have h_:(x5_1:Int)<((x0_1.length:Int):Int):=of_decide_eq_true (by first|(with_reducible assumption)|assumption); first|exact h_|(have e_:=(Kd.R_reads' HO_0.out).1; omega)|simpa using h_); obtain rfl:=k124_openM hM11; have HP11:=Kd.R_seg HX11.out (x5_1:Int) (of_decide_eq_true (by first|(with_reducible assumption)|assumption)) (by have h_:(x5_1:Int)<((x0_1.length:Int):Int):=of_decide_eq_true (by first|(with_reducible assumption)|assumption); first|exact h_|(have e_:=(Kd.R_reads' HO_0.out).1; omega)|simpa using h_) (seg:=[.string t1154]) (j:=0) hcl11 hcc11 (show 1≤2 from by decide) (x':=(⟨t1154,(rd_T124 x0_1 x5_1).f1⟩:S124)) (k124_mkM _ _ _ (⟨t1154,(rd_T124 x0_1 x5_1).f1⟩:S124) ) (fun _ hk=>hk); have hx11_0:=hcc11 0 _ rfl; (try simp only [show (k124).sz=2 from rfl,Nat.mul_one,Nat.add_zero] at hx11_0); have hf11_0:=hfr11 0; (try simp only [show (k124).sz=2 from rfl,Nat.mul_one,Nat.add_zero] at hf11_0); clear hcl11 hcc11 hfr11 hM11)|((with_reducible refine gate_store (t:=9) (p:=17) rfl ?_); refine store_event (t:=9) (p:=17) (v:=?vo_w12) (w1:=(w10.setCell ⟨go6,(x5_1:Int).toNat*2,none⟩ (.string t1154))) ?hg ?ho ?hn ?hr ?_; (case ho=>rfl); (case hg=>rfl); (case hn=>rfl); (case hr=>first|(go_simp; done)|(go_simp; rfl)); intro w12 hw; have hg:w10.grownBy w12 (some go6):=(by rw [hw]; exact HP11.2); have hp_:Kd.R k124 124 w12 w0.heap.size (fun k_=>(P0_ k_ ∨ w.heap.size≤k_)) (.slice (some ⟨go6,0,none⟩) x0_1.length co9) y1155:=(by rw [hw,Ny1155.out]; exact HP11.1); clear HP11; have n0_:=Aside0.mk (hp_); have n1_:=Aside0.mk ((by rw [hw]; exact below_set (HB.out) GB6.out:Below w0.heap.size w0 w12)); have n2_:=Aside0.mk (Kept.of_grown (S:=(fun k_=>P0_ k_)) hg (by repeat (first|(with_reducible first|exact HK.out|apply Kept.alloc|apply Kept.drewN|apply Kept.drew)|exact HK.out)) (fun k_ e_=>(HO_0.out.1 k_ e_))); clear HO_0; clear HB; clear HK; have HO_0:=n0_; have HB:=n1_; have HK:=n2_; clear n0_ n1_ n2_; clear hg hw hp_)|((with_reducible refine gate_callee (f:=50) rfl ?_); refine goesL_ (some 23) rfl rfl Tryz.func50 (by kernel_rfl) rfl #[.int .i64 (wrap64 (x1_1+1))] rfl (by (try simp only [List.map_toArray,List.map_cons,List.map_nil]); first|done|rfl|(simp only [List.length_drop,List.length_take]; rfl)) ?_; (with_reducible refine (laws_markText.calls k1 (wrap64 (x1_1+1)) t1156 _ A7.out).mono ?_); rintro e w13 ⟨rfl,hb⟩; refine ⟨_,rfl,?_⟩; have n0_:=Aside0.mk (Kd.R_below (by (with_reducible repeat (first|apply Kd.R_alloc|apply Kd.R_drewN|apply Kd.R_drew)); exact HO_0.out) hb); have n1_:=Aside0.mk (Kept.below (S:=(fun k_=>P0_ k_)) (by repeat (first|(with_reducible first|exact HK.out|apply Kept.alloc|apply Kept.drewN|apply Kept.drew)|exact HK.out)) hb); have n2_:=Aside0.mk (below_step (by repeat (first|(with_reducible first|exact HB.out|apply below_alloc|apply pw_below_drewN|apply below_drew1)|exact HB.out)) hb); clear HO_0; clear HK; clear HB; have HO_0:=n0_; have HK:=n1_; have HB:=n2_; clear n0_ n1_ n2_; (try clear hb); (try clear hb2); (try clear hk); (try clear hi); have p8:0≤(x5_1:Int):=of_decide_eq_true (by first|(with_reducible assumption)|assumption); have q8:(x5_1:Int)<((x0_1.length:Int):Int):=of_decide_eq_true (by first|(with_reducible assumption)|assumption); obtain ⟨ce8,hcl8,hM8,hcc8,hfr8⟩:=Kd.R_elem HO_0.out z124 (x5_1:Int) p8 q8; obtain rfl:=k124_openM hM8; have hx8_0:w13.cell? ⟨go6,(x5_1:Int).toNat*2,none⟩=some (.string ((rd_T124 y1155 x5_1).f0)):=hcc8 0 _ rfl; have hx8_1:w13.cell? ⟨go6,(x5_1:Int).toNat*2+1,none⟩=some (.string ((rd_T124 y1155 x5_1).f1)):=hcc8 1 _ rfl; have hf8_0:w13.frozen? ⟨go6,(x5_1:Int).toNat*2,none⟩=false:=hfr8 0; have hf8_1:w13.frozen? ⟨go6,(x5_1:Int).toNat*2+1,none⟩=false:=hfr8 1; clear hcl8 hcc8 hfr8 hM8; replace p8:=eq_true p8; replace q8:=eq_true q8; have HX14:=Aside0.mk (show Kd.R k124 124 w13 w0.heap.size (fun k_=>(P0_ k_ ∨ w.heap.size≤k_)) (.slice (some ⟨go6,0,none⟩) x0_1.length co9) y1155 from (by (with_reducible repeat (first|apply Kd.R_alloc|apply Kd.R_drewN|apply Kd.R_drew)); exact HO_0.out)); obtain ⟨ce14,hcl14,hM14,hcc14,hfr14⟩:=Kd.R_elem HX14.out z124 (x5_1:Int) (of_decide_eq_true (by first|(with_reducible assumption)|assumption)) (by have h_:(x5_1:Int)<((x0_1.length:Int):Int):=of_decide_eq_true (by first|(with_reducible assumption)|assumption); first|exact h_|(have e_:=(Kd.R_reads' HO_0.out).1; omega)|simpa using h_); obtain rfl:=k124_openM hM14; have HP14:=Kd.R_seg HX14.out (x5_1:Int) (of_decide_eq_true (by first|(with_reducible assumption)|assumption)) (by have h_:(x5_1:Int)<((x0_1.length:Int):Int):=of_decide_eq_true (by first|(with_reducible assumption)|assumption); first|exact h_|(have e_:=(Kd.R_reads' HO_0.out).1; omega)|simpa using h_) (seg:=[.string t1156]) (j:=1) hcl14 hcc14 (show 2≤2 from by decide) (x':=(⟨(rd_T124 y1155 x5_1).f0,t1156⟩:S124)) (k124_mkM _ _ _ (⟨(rd_T124 y1155 x5_1).f0,t1156⟩:S124) ) (fun _ hk=>hk); have hx14_1:=hcc14 1 _ rfl; (try simp only [show (k124).sz=2 from rfl,Nat.mul_one,Nat.add_zero] at hx14_1); have hf14_1:=hfr14 1; (try simp only [show (k124).sz=2 from rfl,Nat.mul_one,Nat.add_zero] at hf14_1); clear hcl14 hcc14 hfr14 hM14)|((with_reducible refine gate_store (t:=9) (p:=25) rfl ?_); refine store_event (t:=9) (p:=25) (v:=?vo_w15) (w1:=(w13.setCell ⟨go6,(x5_1:Int).toNat*2+1,none⟩ (.string t1156))) ?hg ?ho ?hn ?hr ?_; (case ho=>rfl); (case hg=>rfl); (case hn=>rfl); (case hr=>first|(go_simp; done)|(go_simp; rfl)); intro w15 hw; have hg:w13.grownBy w15 (some go6):=(by rw [hw]; exact HP14.2); have hp_:Kd.R k124 124 w15 w0.heap.size (fun k_=>(P0_ k_ ∨ w.heap.size≤k_)) (.slice (some ⟨go6,0,none⟩) x0_1.length co9) y1157:=(by rw [hw,Ny1157.out]; exact HP14.1); clear HP14; have n0_:=Aside0.mk (hp_); have n1_:=Aside0.mk ((by rw [hw]; exact below_set (HB.out) GB6.out:Below w0.heap.size w0 w15)); have n2_:=Aside0.mk (Kept.of_grown (S:=(fun k_=>P0_ k_)) hg (by repeat (first|(with_reducible first|exact HK.out|apply Kept.alloc|apply Kept.drewN|apply Kept.drew)|exact HK.out)) (fun k_ e_=>(HO_0.out.1 k_ e_))); clear HO_0; clear HB; clear HK; have HO_0:=n0_; have HB:=n1_; have HK:=n2_; clear n0_ n1_ n2_; clear hg hw hp_))
     go_roundg k1
     case measure=>have:=HK1.out; omega
     case rel=>exact ⟨(y1157),(wrap64 ((wrap64 (x1_1+1))+1)),(wrap64 (x5_1+1)),(by first|rfl|(simp; done)|(simp [*]; done)),(by first|rfl|(simp; done)|(simp [*]; done)),H',⟨by have:=HK1.out; omega⟩,⟨by (with_reducible repeat (first|apply Kd.R_alloc|apply Kd.R_drewN|apply Kd.R_drew)); exact HO_0.out⟩,⟨by repeat (first|(with_reducible first|exact HK.out|apply Kept.alloc|apply Kept.drewN|apply Kept.drew)|exact HK.out)⟩,⟨by repeat (first|(with_reducible first|exact HB.out|apply below_alloc|apply pw_below_drewN|apply below_drew1)|exact HB.out)⟩⟩
    ·rw [if_neg c5] at H
     exact absurd H (by simp)
   ·rw [if_neg c3] at H
    have c3b0:decide (x5_1<(x0_1.length:Int))=false:=decide_eq_false c3
    clear c3
    simp only [Option.some.injEq,Prod.mk.injEq] at H
    obtain ⟨rfl,rfl⟩:=H
    obtain ⟨Ao16,co16,eo16⟩:=Kd.R_slice HO_0.out
    subst eo16
    go_wp2
    go_ret
    exact ⟨by first|rfl|(simp [errW_none,errW_some]<;>rfl)|(simp [*,errW_none,errW_some]<;>rfl),by (with_reducible repeat (first|apply Kd.R_alloc|apply Kd.R_drewN|apply Kd.R_drew)); exact HO_0.out,by repeat (first|(with_reducible first|exact HB.out|apply below_alloc|apply pw_below_drewN|apply below_drew1)|exact HB.out),by repeat (first|(with_reducible first|exact HK.out|apply Kept.alloc|apply Kept.drewN|apply Kept.drew)|exact HK.out)⟩
def laws_markOrder.f (k:Nat) (a0_0:ByteArray) (a0_1:ByteArray) (a0_2:Int) (a0_3:Int) (l0_4:List (S61)) (a0_5:Int) (a0_6:Int) (a0_7:Int) (a0_8:Int) (l0_9:List (S124)) (a1:Int):Option (Int × (List (S61)) × (List (S124))):=(laws_markMetricS.f k l0_4 a1).bind fun bt1159=>((laws_markNoteS.f k l0_9 bt1159.1).bind fun bt1161=>(some (bt1161.1,bt1159.2,bt1161.2)))
set_option maxHeartbeats 8000000 in
set_option maxRecDepth 100000 in
theorem laws_markOrder.calls (k:Nat) (a0_0:ByteArray) (a0_1:ByteArray) (a0_2:Int) (a0_3:Int) (P0_4_:Nat→Prop) (u9000_:Value) (l0_4:List (S61)) (a0_5:Int) (a0_6:Int) (a0_7:Int) (a0_8:Int) (P0_9_:Nat→Prop) (u9001_:Value) (l0_9:List (S124)) (a1:Int) (r1:Int) (r2:List (S61)) (r3:List (S124)) (w0 w:World) (hB:Below w0.heap.size w0 w) (ho0_4:Kd.R k61 61 w w0.heap.size P0_4_ u9000_ l0_4) (ho0_9:Kd.R k124 124 w w0.heap.size P0_9_ u9001_ l0_9) (h:laws_markOrder.f k a0_0 a0_1 a0_2 a0_3 l0_4 a0_5 a0_6 a0_7 a0_8 l0_9 a1=some (r1,r2,r3)) :
  Calls Tryz.prog 22 #[.agg #[.string a0_0,.string a0_1,.int .i64 a0_2,.int .i64 a0_3,u9000_,.int .i64 a0_5,.int .i64 a0_6,.int .i64 a0_7,.int .i64 a0_8,u9001_],.int .i64 a1] w fun e w'=>e=.returned (.int .i64 r1)∧Kd.R k61 61 w' w0.heap.size (fun k_=>((P0_4_ k_ ∨ P0_9_ k_) ∨ w.heap.size≤k_)) u9000_ r2∧Kd.R k124 124 w' w0.heap.size (fun k_=>((P0_4_ k_ ∨ P0_9_ k_) ∨ w.heap.size≤k_)) u9001_ r3∧Below w0.heap.size w0 w'∧Kept w w' (fun k_=>P0_4_ k_ ∨ P0_9_ k_):=by
 have hu50:=Tryz.underlying50
 have HO0_4:=Aside0.mk (show Kd.R k61 61 w w0.heap.size (fun k_=>((P0_4_ k_ ∨ P0_9_ k_) ∨ w.heap.size≤k_)) u9000_ l0_4 from Kd.R_mono ho0_4 (fun k_ hk=>(.inl (.inl hk))))
 have HO0_9:=Aside0.mk (show Kd.R k124 124 w w0.heap.size (fun k_=>((P0_4_ k_ ∨ P0_9_ k_) ∨ w.heap.size≤k_)) u9001_ l0_9 from Kd.R_mono ho0_9 (fun k_ hk=>(.inl (.inr hk))))
 have HK:=Aside0.mk (Kept.refl w (fun k_=>P0_4_ k_ ∨ P0_9_ k_))
 have HW0:=Aside0.mk hB.size
 have HB:=Aside0.mk hB
 clear hB
 have H:((laws_markMetricS.f k l0_4 a1).bind fun bt1159=>((laws_markNoteS.f k l0_9 bt1159.1).bind fun bt1161=>(some (bt1161.1,bt1159.2,bt1161.2))))=some (r1,r2,r3):=h
 clear h
 replace H:=Option.bind_eq_some_iff.mp H
 obtain ⟨⟨t1159,t1160⟩,A30,H⟩:=H
 replace H:((laws_markNoteS.f k l0_9 t1159).bind fun bt1161=>(some (bt1161.1,t1160,bt1161.2)))=some (r1,r2,r3):=H
 have A3:=Aside0.mk A30
 clear A30
 replace H:=Option.bind_eq_some_iff.mp H
 obtain ⟨⟨t1161,t1162⟩,A40,H⟩:=H
 replace H:(some (t1161,t1160,t1162))=some (r1,r2,r3):=H
 have A4:=Aside0.mk A40
 clear A40
 simp only [Option.some.injEq,Prod.mk.injEq] at H
 obtain ⟨rfl,rfl,rfl⟩:=H
 obtain ⟨Ao5,co5,eo5⟩:=Kd.R_slice HO0_4.out
 subst eo5
 obtain ⟨Ao6,co6,eo6⟩:=Kd.R_slice HO0_9.out
 subst eo6
 go_enter Tryz.func22,Tryz.ntmps22
 go_wp2_with (first|((with_reducible refine gate_dst (N:=2) rfl ?_); refine box_event ?hg (N:=2) ?hd (cs:=#[.string a0_0,.string a0_1,.int .i64 a0_2,.int .i64 a0_3,.slice Ao5 l0_4.length co5,.int .i64 a0_5,.int .i64 a0_6,.int .i64 a0_7,.int .i64 a0_8,.slice Ao6 l0_9.length co6]) (t:=50) ?hr ?_; (case hd=>rfl); (case hg=>rfl); (case hr=>first|(go_simp; done)|(go_simp; rfl)); intro gb1158 hg w7 hbox hb; have n0_:=Aside0.mk (Kd.R_below (by (with_reducible repeat (first|apply Kd.R_alloc|apply Kd.R_drewN|apply Kd.R_drew)); exact HO0_4.out) hb); have n1_:=Aside0.mk (Kd.R_below (by (with_reducible repeat (first|apply Kd.R_alloc|apply Kd.R_drewN|apply Kd.R_drew)); exact HO0_9.out) hb); have n2_:=Aside0.mk (Kept.below (S:=(fun k_=>P0_4_ k_ ∨ P0_9_ k_)) (by repeat (first|(with_reducible first|exact HK.out|apply Kept.alloc|apply Kept.drewN|apply Kept.drew)|exact HK.out)) hb); have n3_:=Aside0.mk (below_step (by repeat (first|(with_reducible first|exact HB.out|apply below_alloc|apply pw_below_drewN|apply below_drew1)|exact HB.out)) hb); have n4_:=Aside0.mk (hbox); have n5_:=Aside0.mk ((by rw [hg]; exact (by first|exact HK.out.1|exact (show Kept w _ (fun k_=>P0_4_ k_ ∨ P0_9_ k_) from by repeat (first|(with_reducible first|exact HK.out|apply Kept.alloc|apply Kept.drewN|apply Kept.drew)|exact HK.out)).1):w.heap.size≤gb1158)); have n6_:=Aside0.mk ((by rw [hg]; exact (below_size (by repeat (first|(with_reducible first|exact HB.out|apply below_alloc|apply pw_below_drewN|apply below_drew1)|exact HB.out))):w0.heap.size≤gb1158)); clear HO0_4; clear HO0_9; clear HK; clear HB; have HO0_4:=n0_; have HO0_9:=n1_; have HK:=n2_; have HB:=n3_; have BK1158:=n4_; have GW1158:=n5_; have GE1158:=n6_; clear n0_ n1_ n2_ n3_ n4_ n5_ n6_; clear hb hbox hg; have hcz8_0:w7.cell? ⟨gb1158,0,none⟩=some (.string a0_0):=(blk_cell BK1158.out 0).trans rfl; have hcz8_1:w7.cell? ⟨gb1158,1,none⟩=some (.string a0_1):=(blk_cell BK1158.out 1).trans rfl; have hcz8_2:w7.cell? ⟨gb1158,2,none⟩=some (.int .i64 a0_2):=(blk_cell BK1158.out 2).trans rfl; have hcz8_3:w7.cell? ⟨gb1158,3,none⟩=some (.int .i64 a0_3):=(blk_cell BK1158.out 3).trans rfl; have hcz8_4:w7.cell? ⟨gb1158,4,none⟩=some (.slice Ao5 l0_4.length co5):=(blk_cell BK1158.out 4).trans rfl; have hcz8_5:w7.cell? ⟨gb1158,5,none⟩=some (.int .i64 a0_5):=(blk_cell BK1158.out 5).trans rfl; have hcz8_6:w7.cell? ⟨gb1158,6,none⟩=some (.int .i64 a0_6):=(blk_cell BK1158.out 6).trans rfl; have hcz8_7:w7.cell? ⟨gb1158,7,none⟩=some (.int .i64 a0_7):=(blk_cell BK1158.out 7).trans rfl; have hcz8_8:w7.cell? ⟨gb1158,8,none⟩=some (.int .i64 a0_8):=(blk_cell BK1158.out 8).trans rfl; have hcz8_9:w7.cell? ⟨gb1158,9,none⟩=some (.slice Ao6 l0_9.length co6):=(blk_cell BK1158.out 9).trans rfl; have hfz8_0:=blk_frozen BK1158.out 0; have hfz8_1:=blk_frozen BK1158.out 1; have hfz8_2:=blk_frozen BK1158.out 2; have hfz8_3:=blk_frozen BK1158.out 3; have hfz8_4:=blk_frozen BK1158.out 4; have hfz8_5:=blk_frozen BK1158.out 5; have hfz8_6:=blk_frozen BK1158.out 6; have hfz8_7:=blk_frozen BK1158.out 7; have hfz8_8:=blk_frozen BK1158.out 8; have hfz8_9:=blk_frozen BK1158.out 9)|((with_reducible refine gate_callee (f:=15) rfl ?_); refine goesL_ (some 8) rfl rfl Tryz.func15 (by kernel_rfl) rfl #[.slice Ao5 l0_4.length co5,.int .i64 a1] rfl (by (try simp only [List.map_toArray,List.map_cons,List.map_nil]); first|done|rfl|(simp only [List.length_drop,List.length_take]; rfl)) ?_; (with_reducible refine (laws_markMetricS.calls k (fun k_=>some k_=(.slice Ao5 l0_4.length co5:Value).ownBlock) (.slice Ao5 l0_4.length co5) l0_4 a1 t1159 t1160 w0 _ ?side1 ?side2 A3.out).mono ?_); (case side1=>repeat (first|(with_reducible first|exact HB.out|apply below_alloc|apply pw_below_drewN|apply below_drew1|refine below_set ?_ GE1158.out)|exact HB.out)); (case side2=>exact Kd.R_tight rfl HO0_4.out); rintro e w9 ⟨rfl,hy0,hb,hkp⟩; refine ⟨_,rfl,?_⟩; have n0_:=Aside0.mk (Kd.R_reok rfl hy0 (fun k_ e_=>HO0_4.out.1 k_ e_)); have n1_:=Aside0.mk (Kd.R_mono (ok':=fun k_=>((P0_4_ k_ ∨ P0_9_ k_) ∨ w.heap.size≤k_)) (Kd.R_keptB ((Kd.R_apart' HO0_9.out (Kd.R_typed HO0_4.out) (by decide))) hkp (fun k_ hk_ hs_=>(hk_.2) hs_)) (fun k_ hk_=>hk_.1.1)); have n2_:=Aside0.mk (blk_kept (by (with_reducible repeat (first|refine blk_drewN ?_ _|refine blk_drew ?_|refine blk_alloc ?_ _)); exact BK1158.out) hkp (fun hs_=>(fun e_=>(Kd.R_ne HO0_4.out BK1158.out (by decide)) e_) hs_)); have n3_:=Aside0.mk (Kept.then_ (S:=(fun k_=>P0_4_ k_ ∨ P0_9_ k_)) (by repeat (first|(with_reducible first|exact HK.out|apply Kept.alloc|apply Kept.drewN|apply Kept.drew|refine Kept.setCell ?_ (.inr GW1158.out) _)|exact HK.out)) hkp (fun k_ hs_=>(fun e_=>(HO0_4.out.1 k_ e_.symm)) hs_)); have n4_:=Aside0.mk (hb); clear HO0_4; clear HO0_9; clear BK1158; clear HK; clear HB; have HO0_4:=n0_; have HO0_9:=n1_; have BK1158:=n2_; have HK:=n3_; have HB:=n4_; clear n0_ n1_ n2_ n3_ n4_; (try clear hb); (try clear hkp); (try clear hy0); have hcz10_0:w9.cell? ⟨gb1158,0,none⟩=some (.string a0_0):=(blk_cell BK1158.out 0).trans rfl; have hcz10_1:w9.cell? ⟨gb1158,1,none⟩=some (.string a0_1):=(blk_cell BK1158.out 1).trans rfl; have hcz10_2:w9.cell? ⟨gb1158,2,none⟩=some (.int .i64 a0_2):=(blk_cell BK1158.out 2).trans rfl; have hcz10_3:w9.cell? ⟨gb1158,3,none⟩=some (.int .i64 a0_3):=(blk_cell BK1158.out 3).trans rfl; have hcz10_4:w9.cell? ⟨gb1158,4,none⟩=some (.slice Ao5 l0_4.length co5):=(blk_cell BK1158.out 4).trans rfl; have hcz10_5:w9.cell? ⟨gb1158,5,none⟩=some (.int .i64 a0_5):=(blk_cell BK1158.out 5).trans rfl; have hcz10_6:w9.cell? ⟨gb1158,6,none⟩=some (.int .i64 a0_6):=(blk_cell BK1158.out 6).trans rfl; have hcz10_7:w9.cell? ⟨gb1158,7,none⟩=some (.int .i64 a0_7):=(blk_cell BK1158.out 7).trans rfl; have hcz10_8:w9.cell? ⟨gb1158,8,none⟩=some (.int .i64 a0_8):=(blk_cell BK1158.out 8).trans rfl; have hcz10_9:w9.cell? ⟨gb1158,9,none⟩=some (.slice Ao6 l0_9.length co6):=(blk_cell BK1158.out 9).trans rfl; have hfz10_0:=blk_frozen BK1158.out 0; have hfz10_1:=blk_frozen BK1158.out 1; have hfz10_2:=blk_frozen BK1158.out 2; have hfz10_3:=blk_frozen BK1158.out 3; have hfz10_4:=blk_frozen BK1158.out 4; have hfz10_5:=blk_frozen BK1158.out 5; have hfz10_6:=blk_frozen BK1158.out 6; have hfz10_7:=blk_frozen BK1158.out 7; have hfz10_8:=blk_frozen BK1158.out 8; have hfz10_9:=blk_frozen BK1158.out 9)|((with_reducible refine gate_callee (f:=70) rfl ?_); refine goesL_ (some 12) rfl rfl Tryz.func70 (by kernel_rfl) rfl #[.slice Ao6 l0_9.length co6,.int .i64 t1159] rfl (by (try simp only [List.map_toArray,List.map_cons,List.map_nil]); first|done|rfl|(simp only [List.length_drop,List.length_take]; rfl)) ?_; (with_reducible refine (laws_markNoteS.calls k (fun k_=>some k_=(.slice Ao6 l0_9.length co6:Value).ownBlock) (.slice Ao6 l0_9.length co6) l0_9 t1159 t1161 t1162 w0 _ ?side1 ?side2 A4.out).mono ?_); (case side1=>repeat (first|(with_reducible first|exact HB.out|apply below_alloc|apply pw_below_drewN|apply below_drew1|refine below_set ?_ GE1158.out)|exact HB.out)); (case side2=>exact Kd.R_tight rfl HO0_9.out); rintro e w11 ⟨rfl,hy0,hb,hkp⟩; refine ⟨_,rfl,?_⟩; have n0_:=Aside0.mk (Kd.R_mono (ok':=fun k_=>((P0_4_ k_ ∨ P0_9_ k_) ∨ w.heap.size≤k_)) (Kd.R_keptB ((Kd.R_apart' HO0_4.out (Kd.R_typed HO0_9.out) (by decide))) hkp (fun k_ hk_ hs_=>(hk_.2) hs_)) (fun k_ hk_=>hk_.1.1)); have n1_:=Aside0.mk (Kd.R_reok rfl hy0 (fun k_ e_=>HO0_9.out.1 k_ e_)); have n2_:=Aside0.mk (blk_kept (by (with_reducible repeat (first|refine blk_drewN ?_ _|refine blk_drew ?_|refine blk_alloc ?_ _)); exact BK1158.out) hkp (fun hs_=>(fun e_=>(Kd.R_ne HO0_9.out BK1158.out (by decide)) e_) hs_)); have n3_:=Aside0.mk (Kept.then_ (S:=(fun k_=>P0_4_ k_ ∨ P0_9_ k_)) (by repeat (first|(with_reducible first|exact HK.out|apply Kept.alloc|apply Kept.drewN|apply Kept.drew|refine Kept.setCell ?_ (.inr GW1158.out) _)|exact HK.out)) hkp (fun k_ hs_=>(fun e_=>(HO0_9.out.1 k_ e_.symm)) hs_)); have n4_:=Aside0.mk (hb); clear HO0_4; clear HO0_9; clear BK1158; clear HK; clear HB; have HO0_4:=n0_; have HO0_9:=n1_; have BK1158:=n2_; have HK:=n3_; have HB:=n4_; clear n0_ n1_ n2_ n3_ n4_; (try clear hb); (try clear hkp); (try clear hy0)))
 go_ret
 exact ⟨by first|rfl|(simp [errW_none,errW_some]<;>rfl)|(simp [*,errW_none,errW_some]<;>rfl),by (with_reducible repeat (first|apply Kd.R_alloc|apply Kd.R_drewN|apply Kd.R_drew)); exact HO0_4.out,by (with_reducible repeat (first|apply Kd.R_alloc|apply Kd.R_drewN|apply Kd.R_drew)); exact HO0_9.out,by repeat (first|(with_reducible first|exact HB.out|apply below_alloc|apply pw_below_drewN|apply below_drew1|refine below_set ?_ GE1158.out)|exact HB.out),by repeat (first|(with_reducible first|exact HK.out|apply Kept.alloc|apply Kept.drewN|apply Kept.drew|refine Kept.setCell ?_ (.inr GW1158.out) _)|exact HK.out)⟩
end
end Go.Proofs.YtdlhidjphaaklaaGreat.P
end
section
namespace Go.Proofs.YtdlhidjphaaklaaGreat.M
open Go.RowKit Go.Proofs.YtdlhidjphaaklaaGreat.P Go.Proofs.YtdlhidjphaaklaaGreatW.PrintWords
theorem getD_at {α : Type} (xs : List α) (z : α) (i : Nat) (h : i < xs.length) : xs.getD ((i : Int).toNat) z = xs[i] := by
  rw [Int.toNat_natCast, List.getD_eq_getElem?_getD, List.getElem?_eq_getElem h]; rfl
def totMetric (m : S113) : Nat := m.f0.size
def toM (m : S113) : S61 := ⟨m.f0, m.f1, m.f2⟩
theorem szMetric_eq (m : S113) (hm : m.f0.size ≤ maxLen) (left : Int) (h0 : 0 ≤ left) (h1 : left ≤ 1048576) : laws_szMetric.f m.f0 m.f1 m.f2 left = some (szLeft (totMetric m) left) := by
  unfold maxLen at hm
  unfold laws_szMetric.f szLeft totMetric
  rw [w64 (by omega) (by omega)]
  by_cases h : left - (m.f0.size : Int) < 0
  · rw [if_pos h, if_neg (by omega)]
  · rw [if_neg h, if_pos (by omega)]
theorem szMetricS_eq (l : List S113) (hl : l.length ≤ maxLen) (hm : ∀ m ∈ l, m.f0.size ≤ maxLen) (left : Int) (h0 : 0 ≤ left) (h1 : left ≤ 1048576) (k : Nat) (hk : l.length < k) :
    laws_szMetricS.f k l left = some (szLeft (l.length + (l.map totMetric).sum) left) := by
  unfold maxLen at hl
  unfold laws_szMetricS.f
  rw [w64 (by omega) (by omega)]
  by_cases h : left - (l.length : Int) < 0
  · rw [if_pos h]
    unfold szLeft
    rw [if_neg (by omega)]
  · rw [if_neg h]
    have e := sz_loop (g := fun k left i => laws_szMetricS.l0 k l left i) (xs := l) (K := 0) totMetric (fun k left _ => by simp only [laws_szMetricS.l0]; rw [if_neg (by omega)])
      (fun k left i hi _ hl0 hl1 => by
        simp only [laws_szMetricS.l0]
        have er : rd_T113 l (i : Int) = l[i] := getD_at l _ i hi
        rw [if_pos (by omega), if_pos (by omega), er, szMetric_eq _ (hm _ (List.getElem_mem hi)) left hl0 hl1, Option.bind_some, wsucc (by omega)])
      l.length 0 k (left - l.length) (by omega) (by omega) (by omega) (by omega)
    have e0 : ((0 : Nat) : Int) = 0 := rfl
    rw [e0, List.drop_zero] at e
    rw [e]
    unfold szLeft
    by_cases h2 : (((l.map totMetric).sum : Nat) : Int) ≤ left - l.length
    · rw [if_pos h2, if_pos (by omega)]; congr 1; omega
    · rw [if_neg h2, if_neg (by omega)]
theorem toMetricS_eq (l : List S113) (hl : l.length ≤ 1048576) (k : Nat) (hk : l.length < k) : laws_toMetricS.f k l = some (l.map toM) := by
  unfold laws_toMetricS.f
  rw [if_pos (by omega), Int.toNat_natCast, if_pos (by omega)]
  refine fill_all (g := fun k acc i => laws_toMetricS.l0 k l acc i) (K := 0) toM _ (fun k acc _ => ?_) (fun k acc i hi _ ha => ?_) k (by omega)
  · simp only [laws_toMetricS.l0]; rw [if_neg (by omega)]
  · simp only [laws_toMetricS.l0, laws_toMetric.f, Option.bind_some]
    have er : rd_T113 l (i : Int) = l[i] := getD_at l _ i hi
    rw [if_pos (by omega), if_pos (by omega), if_pos (by omega), er, wsucc (by omega), Int.toNat_natCast]
    rfl
def eqM (a b : S61) : Bool := decide (a.f0 = b.f0) && decide (a.f1 = b.f1) && decide (a.f2 = b.f2)
theorem eqMetric_eq (a b : S61) : laws_eqMetric.f a.f0 a.f1 a.f2 b.f0 b.f1 b.f2 = some (eqM a b) := by
  unfold laws_eqMetric.f eqM
  by_cases h : a.f0 = b.f0 <;> by_cases h1 : a.f1 = b.f1 <;> by_cases h2 : a.f2 = b.f2 <;> simp [tlb, h, h1, h2]
theorem eqM_self (a : S61) : eqM a a = true := by unfold eqM; simp
theorem eqMetricS_self (l : List S61) (hl : l.length ≤ 1048576) (k : Nat) (hk : l.length < k) : laws_eqMetricS.f k l l = some true := by
  unfold laws_eqMetricS.f
  rw [if_pos rfl]
  have e := scanK (g := fun k i => laws_eqMetricS.l0 k l l i) (n := l.length) (K := 0) (P := fun _ => true) (e := true) (fun k _ => by simp only [laws_eqMetricS.l0]; rw [if_neg (by omega)])
    (fun k i _ hi => by
      simp only [laws_eqMetricS.l0]
      rw [if_pos (by omega), if_pos (by omega), if_pos (by omega), eqMetric_eq, eqM_self, Option.bind_some, wsucc (by omega), if_pos rfl, if_pos trivial]) l.length 0 k (by omega) (by omega)
  have e0 : ((0 : Nat) : Int) = 0 := rfl
  rw [e0] at e
  rw [e]
  simp
end Go.Proofs.YtdlhidjphaaklaaGreat.M
end
section
namespace Go.Proofs.YtdlhidjphaaklaaGreat.M
open Go.RowKit Go.Proofs.YtdlhidjphaaklaaGreat.P Go.Proofs.YtdlhidjphaaklaaGreatW.PrintWords
def totNote (m : S116) : Nat := m.f0.size + m.f1.size
def toN (m : S116) : S124 := ⟨m.f0, m.f1⟩
theorem szNote_eq (m : S116) (hm : m.f0.size ≤ maxLen) (hm2 : m.f1.size ≤ maxLen) (left : Int) (h0 : 0 ≤ left) (h1 : left ≤ 1048576) : laws_szNote.f m.f0 m.f1 left = some (szLeft (totNote m) left) := by
  unfold maxLen at hm hm2
  unfold laws_szNote.f szLeft totNote
  rw [w64 (by omega) (by omega)]
  by_cases h : left - (m.f0.size : Int) < 0
  · rw [if_pos h, if_neg (by omega)]
  · rw [if_neg h, w64 (by omega) (by omega)]
    by_cases h2 : left - (m.f0.size : Int) - (m.f1.size : Int) < 0
    · rw [if_pos h2, if_neg (by omega)]
    · rw [if_neg h2, if_pos (by omega)]; congr 1; omega
theorem szNoteS_eq (l : List S116) (hl : l.length ≤ maxLen) (hm : ∀ m ∈ l, m.f0.size ≤ maxLen ∧ m.f1.size ≤ maxLen) (left : Int) (h0 : 0 ≤ left) (h1 : left ≤ 1048576) (k : Nat) (hk : l.length < k) :
    laws_szNoteS.f k l left = some (szLeft (l.length + (l.map totNote).sum) left) := by
  unfold maxLen at hl
  unfold laws_szNoteS.f
  rw [w64 (by omega) (by omega)]
  by_cases h : left - (l.length : Int) < 0
  · rw [if_pos h]
    unfold szLeft
    rw [if_neg (by omega)]
  · rw [if_neg h]
    have e := sz_loop (g := fun k left i => laws_szNoteS.l0 k l left i) (xs := l) (K := 0) totNote (fun k left _ => by simp only [laws_szNoteS.l0]; rw [if_neg (by omega)])
      (fun k left i hi _ hl0 hl1 => by
        simp only [laws_szNoteS.l0]
        have er : rd_T116 l (i : Int) = l[i] := getD_at l _ i hi
        rw [if_pos (by omega), if_pos (by omega), er, szNote_eq _ (hm _ (List.getElem_mem hi)).1 (hm _ (List.getElem_mem hi)).2 left hl0 hl1, Option.bind_some, wsucc (by omega)])
      l.length 0 k (left - l.length) (by omega) (by omega) (by omega) (by omega)
    have e0 : ((0 : Nat) : Int) = 0 := rfl
    rw [e0, List.drop_zero] at e
    rw [e]
    unfold szLeft
    by_cases h2 : (((l.map totNote).sum : Nat) : Int) ≤ left - l.length
    · rw [if_pos h2, if_pos (by omega)]; congr 1; omega
    · rw [if_neg h2, if_neg (by omega)]
theorem toNoteS_eq (l : List S116) (hl : l.length ≤ 1048576) (k : Nat) (hk : l.length < k) : laws_toNoteS.f k l = some (l.map toN) := by
  unfold laws_toNoteS.f
  rw [if_pos (by omega), Int.toNat_natCast, if_pos (by omega)]
  refine fill_all (g := fun k acc i => laws_toNoteS.l0 k l acc i) (K := 0) toN _ (fun k acc _ => ?_) (fun k acc i hi _ ha => ?_) k (by omega)
  · simp only [laws_toNoteS.l0]; rw [if_neg (by omega)]
  · simp only [laws_toNoteS.l0, laws_toNote.f, Option.bind_some]
    have er : rd_T116 l (i : Int) = l[i] := getD_at l _ i hi
    rw [if_pos (by omega), if_pos (by omega), if_pos (by omega), er, wsucc (by omega), Int.toNat_natCast]
    rfl
def eqN (a b : S124) : Bool := decide (a.f0 = b.f0) && decide (a.f1 = b.f1)
theorem eqNote_eq (a b : S124) : laws_eqNote.f a.f0 a.f1 b.f0 b.f1 = some (eqN a b) := by
  unfold laws_eqNote.f eqN
  by_cases h : a.f0 = b.f0 <;> by_cases h1 : a.f1 = b.f1 <;> simp [tlb, h, h1]
theorem eqN_self (a : S124) : eqN a a = true := by unfold eqN; simp
theorem eqNoteS_self (l : List S124) (hl : l.length ≤ 1048576) (k : Nat) (hk : l.length < k) : laws_eqNoteS.f k l l = some true := by
  unfold laws_eqNoteS.f
  rw [if_pos rfl]
  have e := scanK (g := fun k i => laws_eqNoteS.l0 k l l i) (n := l.length) (K := 0) (P := fun _ => true) (e := true) (fun k _ => by simp only [laws_eqNoteS.l0]; rw [if_neg (by omega)])
    (fun k i _ hi => by
      simp only [laws_eqNoteS.l0]
      rw [if_pos (by omega), if_pos (by omega), if_pos (by omega), eqNote_eq, eqN_self, Option.bind_some, wsucc (by omega), if_pos rfl, if_pos trivial]) l.length 0 k (by omega) (by omega)
  have e0 : ((0 : Nat) : Int) = 0 := rfl
  rw [e0] at e
  rw [e]
  simp
def totOrder (o : S44) : Nat := o.f0.size + o.f1.size + (o.f4.length + (o.f4.map totMetric).sum) + (o.f6.length + (o.f6.map totNote).sum)
structure OrderIn (o : S44) : Prop where
  n : o.f0.size ≤ maxLen
  t : o.f1.size ≤ maxLen
  ml : o.f4.length ≤ maxLen
  m : ∀ x ∈ o.f4, x.f0.size ≤ maxLen
  nl : o.f6.length ≤ maxLen
  no : ∀ x ∈ o.f6, x.f0.size ≤ maxLen ∧ x.f1.size ≤ maxLen
theorem szOrder_eq (o : S44) (g : OrderIn o) (left : Int) (h0 : 0 ≤ left) (h1 : left ≤ 1048576) (k : Nat) (hk : o.f4.length < k) (hk2 : o.f6.length < k) :
    laws_szOrder.f k o.f0 o.f1 o.f2 o.f3 o.f4 o.f5.f0 o.f5.f1 o.f5.f2 o.f5.f3 o.f6 left = some (szLeft (totOrder o) left) := by
  have gn := g.n; have gt := g.t
  unfold maxLen at gn gt
  unfold laws_szOrder.f
  rw [w64 (by omega) (by omega)]
  have key : ∀ n : Nat, (n : Int) ≤ totOrder o → left - (n : Int) < 0 → szLeft (totOrder o) left = -1 := by
    intro n h h2; unfold szLeft; rw [if_neg (by omega)]
  by_cases h : left - (o.f0.size : Int) < 0
  · rw [if_pos h, key o.f0.size (by unfold totOrder; omega) h]
  · rw [if_neg h, w64 (by omega) (by omega)]
    by_cases h2 : left - (o.f0.size : Int) - (o.f1.size : Int) < 0
    · rw [if_pos h2, key (o.f0.size + o.f1.size) (by unfold totOrder; omega) (by omega)]
    · rw [if_neg h2, szMetricS_eq _ g.ml g.m _ (by omega) (by omega) _ hk, Option.bind_some]
      by_cases h3 : szLeft (o.f4.length + (o.f4.map totMetric).sum) (left - o.f0.size - o.f1.size) < 0
      · rw [if_pos h3]
        unfold szLeft at h3 ⊢
        unfold totOrder
        split at h3
        · omega
        · rw [if_neg (by omega)]
      · have h4 := szLeft_neg h3
        have e : szLeft (o.f4.length + (o.f4.map totMetric).sum) (left - o.f0.size - o.f1.size) = left - o.f0.size - o.f1.size - ((o.f4.length + (o.f4.map totMetric).sum : Nat) : Int) := if_pos h4
        rw [if_neg h3, e, szNoteS_eq _ g.nl g.no _ (by omega) (by omega) _ hk2, Option.bind_some]
        unfold szLeft totOrder
        by_cases h5 : ((o.f6.length + (o.f6.map totNote).sum : Nat) : Int) ≤ left - o.f0.size - o.f1.size - ((o.f4.length + (o.f4.map totMetric).sum : Nat) : Int)
        · rw [if_pos h5, if_neg (by omega), if_pos (by omega)]; congr 1; omega
        · rw [if_neg h5, if_pos (by omega), if_neg (by omega)]
theorem toOrder_eq (o : S44) (h1 : o.f4.length ≤ 1048576) (h2 : o.f6.length ≤ 1048576) (k : Nat) (hk : o.f4.length < k) (hk2 : o.f6.length < k) :
    laws_toOrder.f k o.f0 o.f1 o.f2 o.f3 o.f4 o.f5.f0 o.f5.f1 o.f5.f2 o.f5.f3 o.f6 = some (o.f0, o.f1, o.f2, o.f3, o.f4.map toM, o.f5.f0, o.f5.f1, o.f5.f2, o.f5.f3, o.f6.map toN) := by
  unfold laws_toOrder.f laws_toPace.f
  rw [toMetricS_eq _ h1 _ hk, Option.bind_some, Option.bind_some, toNoteS_eq _ h2 _ hk2, Option.bind_some]
theorem eqOrder_self (n t : ByteArray) (lo hi : Int) (ms : List S61) (p0 p1 p2 p3 : Int) (ns : List S124) (h1 : ms.length ≤ 1048576) (h2 : ns.length ≤ 1048576) (k : Nat) (hk : ms.length < k) (hk2 : ns.length < k) :
    laws_eqOrder.f k n t lo hi ms p0 p1 p2 p3 ns n t lo hi ms p0 p1 p2 p3 ns = some true := by
  unfold laws_eqOrder.f laws_eqPace.f
  simp [eqMetricS_self _ h1 _ hk, eqNoteS_self _ h2 _ hk2]
end Go.Proofs.YtdlhidjphaaklaaGreat.M
end
section
namespace Go.Proofs.YtdlhidjphaaklaaGreat.H
open Go.RowKit Go.Proofs.YtdlhidjphaaklaaGreat.P Go.Proofs.YtdlhidjphaaklaaGreatW.PrintWords Go.Proofs.YtdlhidjphaaklaaGreat.M
theorem mt_ev {n : Int} (h : n ≤ 4611686018427387904) : Ev (fun k => laws_markText.f k n) (mt n) := by
  obtain ⟨k, hk⟩ := mt_is h
  exact Ev.of (fun k => laws_markText.mono _ k) hk
end Go.Proofs.YtdlhidjphaaklaaGreat.H
end
section
namespace Go.Proofs.YtdlhidjphaaklaaGreat.H
open Go.RowKit Go.Proofs.YtdlhidjphaaklaaGreat.P Go.Proofs.YtdlhidjphaaklaaGreatW.PrintWords Go.Proofs.YtdlhidjphaaklaaGreat.M
section
variable {P : Program} {ops : Array Oper} {rest : List Oper} {o : Oper} {a : Act} {Q : Exit → Act → World → Prop}
theorem cells10 {W : World} {g : Nat} {t : TypeId} {a0 a1 a2 a3 a4 a5 a6 a7 a8 a9 : Value} (h : W.heap[g]? = some (.cells #[a0, a1, a2, a3, a4, a5, a6, a7, a8, a9] t (0, 0))) : W.cell? ⟨g, 0, none⟩ = some a0 ∧ W.cell? ⟨g, 1, none⟩ = some a1 ∧ W.cell? ⟨g, 2, none⟩ = some a2 ∧ W.cell? ⟨g, 3, none⟩ = some a3 ∧ W.cell? ⟨g, 4, none⟩ = some a4 ∧ W.cell? ⟨g, 5, none⟩ = some a5 ∧ W.cell? ⟨g, 6, none⟩ = some a6 ∧ W.cell? ⟨g, 7, none⟩ = some a7 ∧ W.cell? ⟨g, 8, none⟩ = some a8 ∧ W.cell? ⟨g, 9, none⟩ = some a9 :=
  ⟨(blk_cell h 0).trans rfl, (blk_cell h 1).trans rfl, (blk_cell h 2).trans rfl, (blk_cell h 3).trans rfl, (blk_cell h 4).trans rfl, (blk_cell h 5).trans rfl, (blk_cell h 6).trans rfl, (blk_cell h 7).trans rfl, (blk_cell h 8).trans rfl, (blk_cell h 9).trans rfl⟩
theorem free10 {W : World} {g : Nat} {t : TypeId} {cs : Array Value} (h : W.heap[g]? = some (.cells cs t (0, 0))) : W.frozen? ⟨g, 0, none⟩ = false ∧ W.frozen? ⟨g, 1, none⟩ = false ∧ W.frozen? ⟨g, 2, none⟩ = false ∧ W.frozen? ⟨g, 3, none⟩ = false ∧ W.frozen? ⟨g, 4, none⟩ = false ∧ W.frozen? ⟨g, 5, none⟩ = false ∧ W.frozen? ⟨g, 6, none⟩ = false ∧ W.frozen? ⟨g, 7, none⟩ = false ∧ W.frozen? ⟨g, 8, none⟩ = false ∧ W.frozen? ⟨g, 9, none⟩ = false :=
  ⟨blk_frozen h 0, blk_frozen h 1, blk_frozen h 2, blk_frozen h 3, blk_frozen h 4, blk_frozen h 5, blk_frozen h 6, blk_frozen h 7, blk_frozen h 8, blk_frozen h 9⟩
theorem put10 {W : World} {g : Nat} {t : TypeId} {a0 a1 a2 a3 a4 a5 a6 a7 a8 a9 : Value} (h : W.heap[g]? = some (.cells #[a0, a1, a2, a3, a4, a5, a6, a7, a8, a9] t (0, 0))) (u0 u1 u2 u3 u4 u5 u6 u7 u8 u9 : Value) :
    ((((((((((W.setCell ⟨g, 0, none⟩ u0).setCell ⟨g, 1, none⟩ u1).setCell ⟨g, 2, none⟩ u2).setCell ⟨g, 3, none⟩ u3).setCell ⟨g, 4, none⟩ u4).setCell ⟨g, 5, none⟩ u5).setCell ⟨g, 6, none⟩ u6).setCell ⟨g, 7, none⟩ u7).setCell ⟨g, 8, none⟩ u8).setCell ⟨g, 9, none⟩ u9).heap[g]? = some (.cells #[u0, u1, u2, u3, u4, u5, u6, u7, u8, u9] t (0, 0)) := by
  have h0 : (W.setCell ⟨g, 0, none⟩ u0).heap[g]? = some (.cells #[u0, a1, a2, a3, a4, a5, a6, a7, a8, a9] t (0, 0)) := blk_put h 0 u0 rfl
  have h1 : ((W.setCell ⟨g, 0, none⟩ u0).setCell ⟨g, 1, none⟩ u1).heap[g]? = some (.cells #[u0, u1, a2, a3, a4, a5, a6, a7, a8, a9] t (0, 0)) := blk_put h0 1 u1 rfl
  have h2 : (((W.setCell ⟨g, 0, none⟩ u0).setCell ⟨g, 1, none⟩ u1).setCell ⟨g, 2, none⟩ u2).heap[g]? = some (.cells #[u0, u1, u2, a3, a4, a5, a6, a7, a8, a9] t (0, 0)) := blk_put h1 2 u2 rfl
  have h3 : ((((W.setCell ⟨g, 0, none⟩ u0).setCell ⟨g, 1, none⟩ u1).setCell ⟨g, 2, none⟩ u2).setCell ⟨g, 3, none⟩ u3).heap[g]? = some (.cells #[u0, u1, u2, u3, a4, a5, a6, a7, a8, a9] t (0, 0)) := blk_put h2 3 u3 rfl
  have h4 : (((((W.setCell ⟨g, 0, none⟩ u0).setCell ⟨g, 1, none⟩ u1).setCell ⟨g, 2, none⟩ u2).setCell ⟨g, 3, none⟩ u3).setCell ⟨g, 4, none⟩ u4).heap[g]? = some (.cells #[u0, u1, u2, u3, u4, a5, a6, a7, a8, a9] t (0, 0)) := blk_put h3 4 u4 rfl
  have h5 : ((((((W.setCell ⟨g, 0, none⟩ u0).setCell ⟨g, 1, none⟩ u1).setCell ⟨g, 2, none⟩ u2).setCell ⟨g, 3, none⟩ u3).setCell ⟨g, 4, none⟩ u4).setCell ⟨g, 5, none⟩ u5).heap[g]? = some (.cells #[u0, u1, u2, u3, u4, u5, a6, a7, a8, a9] t (0, 0)) := blk_put h4 5 u5 rfl
  have h6 : (((((((W.setCell ⟨g, 0, none⟩ u0).setCell ⟨g, 1, none⟩ u1).setCell ⟨g, 2, none⟩ u2).setCell ⟨g, 3, none⟩ u3).setCell ⟨g, 4, none⟩ u4).setCell ⟨g, 5, none⟩ u5).setCell ⟨g, 6, none⟩ u6).heap[g]? = some (.cells #[u0, u1, u2, u3, u4, u5, u6, a7, a8, a9] t (0, 0)) := blk_put h5 6 u6 rfl
  have h7 : ((((((((W.setCell ⟨g, 0, none⟩ u0).setCell ⟨g, 1, none⟩ u1).setCell ⟨g, 2, none⟩ u2).setCell ⟨g, 3, none⟩ u3).setCell ⟨g, 4, none⟩ u4).setCell ⟨g, 5, none⟩ u5).setCell ⟨g, 6, none⟩ u6).setCell ⟨g, 7, none⟩ u7).heap[g]? = some (.cells #[u0, u1, u2, u3, u4, u5, u6, u7, a8, a9] t (0, 0)) := blk_put h6 7 u7 rfl
  have h8 : (((((((((W.setCell ⟨g, 0, none⟩ u0).setCell ⟨g, 1, none⟩ u1).setCell ⟨g, 2, none⟩ u2).setCell ⟨g, 3, none⟩ u3).setCell ⟨g, 4, none⟩ u4).setCell ⟨g, 5, none⟩ u5).setCell ⟨g, 6, none⟩ u6).setCell ⟨g, 7, none⟩ u7).setCell ⟨g, 8, none⟩ u8).heap[g]? = some (.cells #[u0, u1, u2, u3, u4, u5, u6, u7, u8, a9] t (0, 0)) := blk_put h7 8 u8 rfl
  have h9 : ((((((((((W.setCell ⟨g, 0, none⟩ u0).setCell ⟨g, 1, none⟩ u1).setCell ⟨g, 2, none⟩ u2).setCell ⟨g, 3, none⟩ u3).setCell ⟨g, 4, none⟩ u4).setCell ⟨g, 5, none⟩ u5).setCell ⟨g, 6, none⟩ u6).setCell ⟨g, 7, none⟩ u7).setCell ⟨g, 8, none⟩ u8).setCell ⟨g, 9, none⟩ u9).heap[g]? = some (.cells #[u0, u1, u2, u3, u4, u5, u6, u7, u8, u9] t (0, 0)) := blk_put h8 9 u9 rfl
  exact h9
theorem store10_event {W : World} (hgd : o.guard = none) {t : TypeId} {p : Tmp} {v : Operand} (_ho : o.op = .store t (.tmp p) v) (hN : o.dst = none) {g : Nat} {a0 a1 a2 a3 a4 a5 a6 a7 a8 a9 : Value} (u0 u1 u2 u3 u4 u5 u6 u7 u8 u9 : Value)
    (bk : W.heap[g]? = some (.cells #[a0, a1, a2, a3, a4, a5, a6, a7, a8, a9] t (0, 0)))
    (hrun : (execOp a.eval o).run P W = .ok .skip ((((((((((W.setCell ⟨g, 0, none⟩ u0).setCell ⟨g, 1, none⟩ u1).setCell ⟨g, 2, none⟩ u2).setCell ⟨g, 3, none⟩ u3).setCell ⟨g, 4, none⟩ u4).setCell ⟨g, 5, none⟩ u5).setCell ⟨g, 6, none⟩ u6).setCell ⟨g, 7, none⟩ u7).setCell ⟨g, 8, none⟩ u8).setCell ⟨g, 9, none⟩ u9))
    (h : ∀ w', w'.heap[g]? = some (.cells #[u0, u1, u2, u3, u4, u5, u6, u7, u8, u9] t (0, 0)) → Chg (fun k => k = g) W w' → wpList P ops Q rest a w') : wpList P ops Q (o :: rest) a W :=
  store_event hgd _ho hN hrun (fun w' e => h w' (e ▸ put10 bk u0 u1 u2 u3 u4 u5 u6 u7 u8 u9) (e ▸ ((((((((((chg_at W g 0 u0).trans (chg_at _ g 1 u1)).trans (chg_at _ g 2 u2)).trans (chg_at _ g 3 u3)).trans (chg_at _ g 4 u4)).trans (chg_at _ g 5 u5)).trans (chg_at _ g 6 u6)).trans (chg_at _ g 7 u7)).trans (chg_at _ g 8 u8)).trans (chg_at _ g 9 u9))))
end
def OB (w : World) (b c : Nat) (v v' : Value) (ms : List S61) (ns : List S124) : Prop :=
  Kd.R k61 61 w b (fun k => b ≤ k ∧ k < c) v ms ∧ Kd.R k124 124 w b (fun k => b ≤ k ∧ k < c) v' ns
theorem OB.of {w : World} {b : Nat} {ok ok' : Nat → Prop} {v v' : Value} {ms : List S61} {ns : List S124} (h : Kd.R k61 61 w b ok v ms) (h' : Kd.R k124 124 w b ok' v' ns) : OB w b w.heap.size v v' ms ns :=
  ⟨Kd.R_mono (Kd.R_bound h) (fun k hk => ⟨hk.2.1, hk.2.2.1⟩), Kd.R_mono (Kd.R_bound h') (fun k hk => ⟨hk.2.1, hk.2.2.1⟩)⟩
theorem OB.below {w w1 : World} {b c : Nat} {v v' : Value} {ms : List S61} {ns : List S124} (h : OB w b c v v' ms ns) (hb : Below w.heap.size w w1) : OB w1 b c v v' ms ns := ⟨Kd.R_below h.1 hb, Kd.R_below h.2 hb⟩
theorem OB.chg {S : Nat → Prop} {w w1 : World} {b c : Nat} {v v' : Value} {ms : List S61} {ns : List S124} (h : OB w b c v v' ms ns) (hc : Chg S w w1) (hs : ∀ k, b ≤ k → k < c → k < w.heap.size → ¬ S k) : OB w1 b c v v' ms ns :=
  ⟨Kd.R_step h.1 (fun k ok hk => hc.block k hk (hs k ok.1 ok.2 hk)), Kd.R_step h.2 (fun k ok hk => hc.block k hk (hs k ok.1 ok.2 hk))⟩
def OR (w : World) (v v' : Value) (ms : List S61) (ns : List S124) : Prop := ∃ A4 n4 A9 n9, v = .slice A4 ms.length n4 ∧ v' = .slice A9 ns.length n9 ∧ Kd.C k61 w A4 ms.length ms ∧ ms.length ≤ n4 ∧ Kd.C k124 w A9 ns.length ns ∧ ns.length ≤ n9
theorem OB.reads {w : World} {b c : Nat} {v v' : Value} {ms : List S61} {ns : List S124} (h : OB w b c v v' ms ns) : OR w v v' ms ns := by
  obtain ⟨A4, n4, e4, l4, c4⟩ := Kd.R_reads h.1
  obtain ⟨A9, n9, e9, l9, c9⟩ := Kd.R_reads h.2
  exact ⟨A4, n4, A9, n9, e4, e9, c4, l4, c9, l9⟩
theorem OR.below {w w1 : World} {v v' : Value} {ms : List S61} {ns : List S124} (h : OR w v v' ms ns) (hb : Below w.heap.size w w1) : OR w1 v v' ms ns := by
  obtain ⟨A4, n4, A9, n9, e4, e9, c4, l4, c9, l9⟩ := h
  exact ⟨A4, n4, A9, n9, e4, e9, Kd.C_below c4 hb, l4, Kd.C_below c9 hb, l9⟩
theorem OR.slices {w : World} {A4 A9 : Option Addr} {m4 n4 m9 n9 : Nat} {ms : List S61} {ns : List S124} (h : OR w (.slice A4 m4 n4) (.slice A9 m9 n9) ms ns) : m4 = ms.length ∧ m9 = ns.length ∧ Kd.C k61 w A4 ms.length ms ∧ ms.length ≤ n4 ∧ Kd.C k124 w A9 ns.length ns ∧ ns.length ≤ n9 := by
  obtain ⟨B4, k4, B9, k9, e4, e9, c4, l4, c9, l9⟩ := h
  injection e4 with e1 e2 e3
  injection e9 with e5 e6 e7
  subst e1 e3 e5 e7
  exact ⟨e2, e6, c4, l4, c9, l9⟩
def OMade (w : World) (n t : ByteArray) (lo hi : Int) (ms : List S61) (p0 p1 p2 p3 : Int) (ns : List S124) (e : Ending) (w' : World) : Prop :=
  ∃ (v v' : Value) (b c : Nat), w.heap.size = b ∧ w'.heap.size = c ∧ e = .returned (.agg #[.string n, .string t, .int .i64 lo, .int .i64 hi, v, .int .i64 p0, .int .i64 p1, .int .i64 p2, .int .i64 p3, v']) ∧ OB w' b c v v' ms ns ∧ Below w.heap.size w w'
theorem toO_calls (o : S44) (h1 : o.f4.length ≤ 1048576) (h2 : o.f6.length ≤ 1048576) {w : World} {A4 A9 : Option Addr} {n4 n9 : Nat} (g4 : Kd.C k113 w A4 o.f4.length o.f4) (l4 : o.f4.length ≤ n4) (g9 : Kd.C k116 w A9 o.f6.length o.f6) (l9 : o.f6.length ≤ n9) :
    Calls Tryz.prog 19 #[.agg #[.string o.f0, .string o.f1, .int .i64 o.f2, .int .i64 o.f3, .slice A4 o.f4.length n4, .int .i64 o.f5.f0, .int .i64 o.f5.f1, .int .i64 o.f5.f2, .int .i64 o.f5.f3, .slice A9 o.f6.length n9]] w fun e w' => OMade w o.f0 o.f1 o.f2 o.f3 (o.f4.map toM) o.f5.f0 o.f5.f1 o.f5.f2 o.f5.f3 (o.f6.map toN) e w' := by
  refine (laws_toOrder.calls (o.f4.length + o.f6.length + 1) o.f0 o.f1 o.f2 o.f3 A4 n4 o.f4 o.f5.f0 o.f5.f1 o.f5.f2 o.f5.f3 A9 n9 o.f6 _ _ _ _ _ _ _ _ _ _ w g4 l4 g9 l9 (toOrder_eq o h1 h2 _ (by omega) (by omega))).mono ?_
  rintro e w' ⟨v, v', rfl, h3, h4, hb⟩
  exact ⟨v, v', _, _, rfl, rfl, rfl, OB.of h3 h4, hb⟩
theorem szO_calls (o : S44) (g : OrderIn o) {w : World} {A4 A9 : Option Addr} {n4 n9 : Nat} (g4 : Kd.C k113 w A4 o.f4.length o.f4) (l4 : o.f4.length ≤ n4) (g9 : Kd.C k116 w A9 o.f6.length o.f6) (l9 : o.f6.length ≤ n9) :
    Calls Tryz.prog 17 #[.agg #[.string o.f0, .string o.f1, .int .i64 o.f2, .int .i64 o.f3, .slice A4 o.f4.length n4, .int .i64 o.f5.f0, .int .i64 o.f5.f1, .int .i64 o.f5.f2, .int .i64 o.f5.f3, .slice A9 o.f6.length n9], .int .i64 1048576] w fun e w' => e = .returned (.int .i64 (szLeft (totOrder o) 1048576)) ∧ Below w.heap.size w w' :=
  laws_szOrder.calls (o.f4.length + o.f6.length + 1) o.f0 o.f1 o.f2 o.f3 A4 n4 o.f4 o.f5.f0 o.f5.f1 o.f5.f2 o.f5.f3 A9 n9 o.f6 1048576 _ w g4 l4 g9 l9 (szOrder_eq o g 1048576 (by decide) (by decide) _ (by omega) (by omega))
theorem eqO_calls (n t : ByteArray) (lo hi : Int) (ms : List S61) (p0 p1 p2 p3 : Int) (ns : List S124) (h1 : ms.length ≤ 1048576) (h2 : ns.length ≤ 1048576) {w : World} {A4 A9 B4 B9 : Option Addr} {n4 n9 k4 k9 : Nat} (h : OR w (.slice A4 ms.length n4) (.slice A9 ns.length n9) ms ns) (h' : OR w (.slice B4 ms.length k4) (.slice B9 ns.length k9) ms ns) :
    Calls Tryz.prog 21 #[.agg #[.string n, .string t, .int .i64 lo, .int .i64 hi, .slice A4 ms.length n4, .int .i64 p0, .int .i64 p1, .int .i64 p2, .int .i64 p3, .slice A9 ns.length n9], .agg #[.string n, .string t, .int .i64 lo, .int .i64 hi, .slice B4 ms.length k4, .int .i64 p0, .int .i64 p1, .int .i64 p2, .int .i64 p3, .slice B9 ns.length k9]] w fun e w' => e = .returned (.bool true) ∧ Below w.heap.size w w' := by
  obtain ⟨_, _, c4, l4, c9, l9⟩ := h.slices
  obtain ⟨_, _, d4, m4, d9, m9⟩ := h'.slices
  exact laws_eqOrder.calls (ms.length + ns.length + 1) n t lo hi A4 n4 ms p0 p1 p2 p3 A9 n9 ns n t lo hi B4 k4 ms p0 p1 p2 p3 B9 k9 ns true w c4 l4 c9 l9 d4 m4 d9 m9 (eqOrder_self n t lo hi ms p0 p1 p2 p3 ns h1 h2 _ (by omega) (by omega))
theorem markMS_ev : ∀ (d : Nat) (l : List S61) (i : Nat) (x : Int), i + d = l.length → l.length ≤ 1048576 → 1 ≤ x → x ≤ 1099511627776 + 3 * i → ∃ l' r, Ev (fun k => laws_markMetricS.l0 k l x (i : Int)) (r, l') ∧ 1 ≤ r ∧ r ≤ 1099511627776 + 3 * l.length := by
  intro d
  induction d with
  | zero =>
    intro l i x hi hl h1 h2
    refine ⟨l, x, Ev.step (f := fun _ => some (x, l)) (fun k => ?_) (Ev.now _), h1, by omega⟩
    simp only [laws_markMetricS.l0]
    rw [if_neg (by omega)]
  | succ d ih =>
    intro l i x hi hl h1 h2
    obtain ⟨l', r, h, h3, h4⟩ := ih (((l.set i (⟨mt x, (rd_T61 l (i : Int)).f1, (rd_T61 l (i : Int)).f2⟩ : S61)).set i (⟨(rd_T61 (l.set i (⟨mt x, (rd_T61 l (i : Int)).f1, (rd_T61 l (i : Int)).f2⟩ : S61)) (i : Int)).f0, x + 1, (rd_T61 (l.set i (⟨mt x, (rd_T61 l (i : Int)).f1, (rd_T61 l (i : Int)).f2⟩ : S61)) (i : Int)).f2⟩ : S61)).set i (⟨(rd_T61 ((l.set i (⟨mt x, (rd_T61 l (i : Int)).f1, (rd_T61 l (i : Int)).f2⟩ : S61)).set i (⟨(rd_T61 (l.set i (⟨mt x, (rd_T61 l (i : Int)).f1, (rd_T61 l (i : Int)).f2⟩ : S61)) (i : Int)).f0, x + 1, (rd_T61 (l.set i (⟨mt x, (rd_T61 l (i : Int)).f1, (rd_T61 l (i : Int)).f2⟩ : S61)) (i : Int)).f2⟩ : S61)) (i : Int)).f0, (rd_T61 ((l.set i (⟨mt x, (rd_T61 l (i : Int)).f1, (rd_T61 l (i : Int)).f2⟩ : S61)).set i (⟨(rd_T61 (l.set i (⟨mt x, (rd_T61 l (i : Int)).f1, (rd_T61 l (i : Int)).f2⟩ : S61)) (i : Int)).f0, x + 1, (rd_T61 (l.set i (⟨mt x, (rd_T61 l (i : Int)).f1, (rd_T61 l (i : Int)).f2⟩ : S61)) (i : Int)).f2⟩ : S61)) (i : Int)).f1, x + 1 + 1⟩ : S61)) (i + 1) (x + 1 + 1 + 1) (by simp; omega) (by simpa using hl) (by omega) (by omega)
    refine ⟨l', r, ?_, h3, by simpa using h4⟩
    have h0 : (i : Int).toNat = i := by omega
    have e : Ev (fun k => (laws_markText.f k x).bind fun t => laws_markMetricS.l0 k (((l.set i (⟨t, (rd_T61 l (i : Int)).f1, (rd_T61 l (i : Int)).f2⟩ : S61)).set i (⟨(rd_T61 (l.set i (⟨t, (rd_T61 l (i : Int)).f1, (rd_T61 l (i : Int)).f2⟩ : S61)) (i : Int)).f0, x + 1, (rd_T61 (l.set i (⟨t, (rd_T61 l (i : Int)).f1, (rd_T61 l (i : Int)).f2⟩ : S61)) (i : Int)).f2⟩ : S61)).set i (⟨(rd_T61 ((l.set i (⟨t, (rd_T61 l (i : Int)).f1, (rd_T61 l (i : Int)).f2⟩ : S61)).set i (⟨(rd_T61 (l.set i (⟨t, (rd_T61 l (i : Int)).f1, (rd_T61 l (i : Int)).f2⟩ : S61)) (i : Int)).f0, x + 1, (rd_T61 (l.set i (⟨t, (rd_T61 l (i : Int)).f1, (rd_T61 l (i : Int)).f2⟩ : S61)) (i : Int)).f2⟩ : S61)) (i : Int)).f0, (rd_T61 ((l.set i (⟨t, (rd_T61 l (i : Int)).f1, (rd_T61 l (i : Int)).f2⟩ : S61)).set i (⟨(rd_T61 (l.set i (⟨t, (rd_T61 l (i : Int)).f1, (rd_T61 l (i : Int)).f2⟩ : S61)) (i : Int)).f0, x + 1, (rd_T61 (l.set i (⟨t, (rd_T61 l (i : Int)).f1, (rd_T61 l (i : Int)).f2⟩ : S61)) (i : Int)).f2⟩ : S61)) (i : Int)).f1, x + 1 + 1⟩ : S61)) (x + 1 + 1 + 1) ((i + 1 : Nat) : Int)) (r, l') := Ev.bind (mt_ev (by omega)) h
    refine Ev.step (fun k => ?_) e
    simp only [laws_markMetricS.l0]
    rw [if_pos (by omega), w64 (i := x + 1) (by omega) (by omega), w64 (i := x + 1 + 1) (by omega) (by omega), w64 (i := x + 1 + 1 + 1) (by omega) (by omega), wsucc (by omega), h0]
    congr 1 <;> (funext t; rw [if_pos (by omega), Option.bind_some, Option.bind_some])
theorem markNS_ev : ∀ (d : Nat) (l : List S124) (i : Nat) (x : Int), i + d = l.length → l.length ≤ 1048576 → 1 ≤ x → x ≤ 2199023255552 + 2 * i → ∃ l' r, Ev (fun k => laws_markNoteS.l0 k l x (i : Int)) (r, l') ∧ 1 ≤ r := by
  intro d
  induction d with
  | zero =>
    intro l i x hi hl h1 h2
    refine ⟨l, x, Ev.step (f := fun _ => some (x, l)) (fun k => ?_) (Ev.now _), h1⟩
    simp only [laws_markNoteS.l0]
    rw [if_neg (by omega)]
  | succ d ih =>
    intro l i x hi hl h1 h2
    have e0 : ∃ y1, y1 = l.set i (⟨mt x, (rd_T124 l (i : Int)).f1⟩ : S124) := ⟨_, rfl⟩
    obtain ⟨y1, hy1⟩ := e0
    obtain ⟨l', r, h, h3⟩ := ih (y1.set i (⟨(rd_T124 y1 (i : Int)).f0, mt (x + 1)⟩ : S124)) (i + 1) (x + 1 + 1) (by rw [hy1]; simp; omega) (by rw [hy1]; simpa using hl) (by omega) (by omega)
    refine ⟨l', r, ?_, h3⟩
    have h0 : (i : Int).toNat = i := by omega
    subst hy1
    have e : Ev (fun k => (laws_markText.f k x).bind fun t => ((laws_markText.f k (x + 1)).bind fun u => laws_markNoteS.l0 k ((l.set i (⟨t, (rd_T124 l (i : Int)).f1⟩ : S124)).set i (⟨(rd_T124 (l.set i (⟨t, (rd_T124 l (i : Int)).f1⟩ : S124)) (i : Int)).f0, u⟩ : S124)) (x + 1 + 1) ((i + 1 : Nat) : Int))) (r, l') := Ev.bind (mt_ev (by omega)) (Ev.bind (mt_ev (by omega)) h)
    refine Ev.step (fun k => ?_) e
    simp only [laws_markNoteS.l0]
    rw [if_pos (by omega), w64 (i := x + 1) (by omega) (by omega), w64 (i := x + 1 + 1) (by omega) (by omega), wsucc (by omega), h0]
    congr 1 <;> (funext t; rw [if_pos (by omega), Option.bind_some])
theorem markO_ev (n t : ByteArray) (lo hi : Int) (ms : List S61) (p0 p1 p2 p3 : Int) (ns : List S124) (h1 : ms.length ≤ 1048576) (h2 : ns.length ≤ 1048576) : ∃ r ms' ns', Ev (fun k => laws_markOrder.f k n t lo hi ms p0 p1 p2 p3 ns 1) (r, ms', ns') ∧ 1 ≤ r := by
  obtain ⟨ms', x, hm, hx, hx2⟩ := markMS_ev ms.length ms 0 1 (by omega) h1 (by decide) (by decide)
  obtain ⟨ns', r, hn, hr⟩ := markNS_ev ns.length ns 0 x (by omega) h2 hx (by omega)
  refine ⟨r, ms', ns', ?_, hr⟩
  unfold laws_markOrder.f laws_markMetricS.f laws_markNoteS.f
  exact Ev.bind hm (Ev.bind hn (Ev.now _))
theorem sum_mem {α : Type} (f : α → Nat) {l : List α} {z : α} (hz : z ∈ l) : f z ≤ (l.map f).sum := by
  induction l with
  | nil => cases hz
  | cons x xs ih =>
    rw [List.map_cons, List.sum_cons]
    rcases List.mem_cons.1 hz with rfl | h
    · omega
    · have := ih h; omega
theorem small_ord (o : S44) (h : ((totOrder o : Nat) : Int) ≤ 1048576) : o.f0.size ≤ 1048576 ∧ o.f1.size ≤ 1048576 ∧ o.f4.length ≤ 1048576 ∧ (∀ z ∈ o.f4, z.f0.size ≤ 1048576) ∧ o.f6.length ≤ 1048576 ∧ (∀ z ∈ o.f6, z.f0.size ≤ 1048576 ∧ z.f1.size ≤ 1048576) := by
  unfold totOrder at h
  refine ⟨by omega, by omega, by omega, fun z hz => ?_, by omega, fun z hz => ?_⟩
  · have := sum_mem totMetric hz
    unfold totMetric at this
    unfold totMetric at h
    omega
  · have := sum_mem totNote hz
    unfold totNote at this
    unfold totNote at h
    omega
def cutW (w : World) (b : Nat) : World := { w with heap := w.heap.extract 0 b }
theorem cutW_size (w : World) (b : Nat) (h : b ≤ w.heap.size) : (cutW w b).heap.size = b := by simp [cutW]; omega
theorem cutW_below (w : World) (b : Nat) (h : b ≤ w.heap.size) : Below b (cutW w b) w := by
  refine ⟨rfl, rfl, rfl, by rw [cutW_size w b h]; exact h, fun k hk => ?_⟩
  simp [cutW, Array.getElem?_extract]
  omega
theorem markO_calls (n t : ByteArray) (lo hi : Int) (ms : List S61) (p0 p1 p2 p3 : Int) (ns : List S124) (h1 : ms.length ≤ 1048576) (h2 : ns.length ≤ 1048576) {w : World} {b c : Nat} {v v' : Value} (h : OB w b c v v' ms ns) (hb : b ≤ w.heap.size) :
    Calls Tryz.prog 22 #[.agg #[.string n, .string t, .int .i64 lo, .int .i64 hi, v, .int .i64 p0, .int .i64 p1, .int .i64 p2, .int .i64 p3, v'], .int .i64 1] w fun e w' => ∃ r, 1 ≤ r ∧ e = .returned (.int .i64 r) ∧ Chg (fun k => b ≤ k ∧ k < c ∨ w.heap.size ≤ k) w w' := by
  obtain ⟨r, ms', ns', hE, hr⟩ := markO_ev n t lo hi ms p0 p1 p2 p3 ns h1 h2
  obtain ⟨k, hk⟩ := hE.rounds
  have hB := cutW_below w b hb
  have hz := cutW_size w b hb
  refine (laws_markOrder.calls k n t lo hi (fun k => b ≤ k ∧ k < c) v ms p0 p1 p2 p3 (fun k => b ≤ k ∧ k < c) v' ns 1 _ _ _ (cutW w b) w (hz.symm ▸ hB) (hz.symm ▸ h.1) (hz.symm ▸ h.2) hk).mono ?_
  rintro e w' ⟨rfl, _, _, hB', hk'⟩
  exact ⟨r, hr, rfl, hB'.os, hB'.tape, hB'.output, hk'.1, fun k hk hs => hk'.2 k hk (fun e => hs (.inl (e.elim id id)))⟩
end Go.Proofs.YtdlhidjphaaklaaGreat.H
end
section
namespace Go.Proofs.YtdlhidjphaaklaaGreat.H
open Go.RowKit Go.Proofs.YtdlhidjphaaklaaGreat.P Go.Proofs.YtdlhidjphaaklaaGreatW.PrintWords Go.Proofs.YtdlhidjphaaklaaGreat.M
theorem ord_reps {n t : ByteArray} {lo hi : Int} {ms : List S61} {p0 p1 p2 p3 : Int} {ns : List S124} {w : World} {A4 A9 : Option Addr} {n4 n9 : Nat} (h : OR w (.slice A4 ms.length n4) (.slice A9 ns.length n9) ms ns) :
    V.Reps (fun b _ => b < w.heap.size) [] w [.agg [.val (.string n), .val (.string t), .val (.int .i64 lo), .val (.int .i64 hi), .row (ms.map V.c61) .no, .val (.int .i64 p0), .val (.int .i64 p1), .val (.int .i64 p2), .val (.int .i64 p3), .row (ns.map V.c124) .no]]
      [.agg #[.string n, .string t, .int .i64 lo, .int .i64 hi, .slice A4 ms.length n4, .int .i64 p0, .int .i64 p1, .int .i64 p2, .int .i64 p3, .slice A9 ns.length n9]] := by
  obtain ⟨_, _, c4, l4, c9, l9⟩ := h.slices
  exact V.reps_cons_mk (V.rep_agg_mk (V.reps_cons_mk (V.Rep.val _ rfl) (V.reps_cons_mk (V.Rep.val _ rfl) (V.reps_cons_mk (V.Rep.val _ rfl) (V.reps_cons_mk (V.Rep.val _ rfl) (V.reps_cons_mk (V.row_to [] (by decide) V.ka61.len V.ka61.fl (fun x _ cs h => V.ka61.fwd [] h) c4 l4) (V.reps_cons_mk (V.Rep.val _ rfl) (V.reps_cons_mk (V.Rep.val _ rfl) (V.reps_cons_mk (V.Rep.val _ rfl) (V.reps_cons_mk (V.Rep.val _ rfl) (V.reps_cons_mk (V.row_to [] (by decide) V.ka124.len V.ka124.fl (fun x _ cs h => V.ka124.fwd [] h) c9 l9) V.reps_nil_mk)))))))))) rfl) V.reps_nil_mk
theorem node_seen {w : World} {F : Nat → Nat → Prop} {gs : List (Option Nat)} {a b : Int} {s : ByteArray} {ks : List ByteArray} {kids : List S32} {v : Value} (h : V.Rep F gs w (.agg [.val (.int .i64 a), .val (.int .i64 b), .val (.string s), .row (ks.map V.cS) .no, .row (kids.map V.c32) .no]) v) :
    ∃ v3 v4, v = .agg #[.int .i64 a, .int .i64 b, .string s, v3, v4] ∧ Seen w v3 v4 ⟨a, b, s, ks, kids⟩ := by
  obtain ⟨ys, rfl, h0⟩ := V.rep_agg h
  obtain ⟨j0, w0_, rfl, f0, h1⟩ := V.reps_cons h0
  obtain ⟨j1, w1_, rfl, f1, h2⟩ := V.reps_cons h1
  obtain ⟨j2, w2_, rfl, f2, h3⟩ := V.reps_cons h2
  obtain ⟨j3, w3_, rfl, f3, h4⟩ := V.reps_cons h3
  obtain ⟨j4, w4_, rfl, f4, h5⟩ := V.reps_cons h4
  obtain rfl := V.reps_nil h5
  obtain rfl := (V.rep_val f0).1
  obtain rfl := (V.rep_val f1).1
  obtain rfl := (V.rep_val f2).1
  obtain ⟨B3, m3, rfl, i3, k3⟩ := V.row_of V.ka_string.len (fun x _ cs h => V.ka_string.of h) f3
  obtain ⟨B4, m4, rfl, i4, k4⟩ := V.row_of V.ka32.len (fun x _ cs h => V.ka32.of h) f4
  exact ⟨_, _, rfl, B3, m3, B4, m4, rfl, rfl, k3, i3, k4, i4⟩
end Go.Proofs.YtdlhidjphaaklaaGreat.H
end
section
namespace Go.Proofs.YtdlhidjphaaklaaGreat.M
open Go.RowKit Go.Proofs.YtdlhidjphaaklaaGreat.P Go.Proofs.YtdlhidjphaaklaaGreatW.PrintWords
theorem str_digit (d : Nat) (h : d < 10) : strOfNums [((48 + d : Nat) : Int)] = ⟨#[UInt8.ofNat (48 + d)]⟩ := by
  have : ∀ d : Fin 10, strOfNums [((48 + d.val : Nat) : Int)] = ⟨#[UInt8.ofNat (48 + d.val)]⟩ := by decide +kernel
  exact this ⟨d, h⟩
theorem enc_digit (d : Nat) (h : d < 10) : Utf8.encode ((48 + d : Nat) : Int) = ⟨#[UInt8.ofNat (48 + d)]⟩ := by
  have : ∀ d : Fin 10, Utf8.encode ((48 + d.val : Nat) : Int) = ⟨#[UInt8.ofNat (48 + d.val)]⟩ := by decide +kernel
  exact this ⟨d, h⟩
theorem ba_append (a b : List UInt8) : (⟨a.toArray⟩ : ByteArray) ++ (⟨b.toArray⟩ : ByteArray) = ⟨(a ++ b).toArray⟩ := by
  apply ByteArray.ext
  simp
theorem ba_size (a : List UInt8) : (⟨a.toArray⟩ : ByteArray).size = a.length := by simp [ByteArray.size]
def sgn (b : Bool) : List UInt8 := if b = true then [45] else []
def body (n : Nat) : List UInt8 := if n = 0 then [] else natDigs n
theorem tdiv_abs (x : Int) : (Int.tdiv x 10).natAbs = x.natAbs / 10 := by
  rw [Int.natAbs_tdiv]; rfl
theorem tmod_abs (x : Int) : (Int.tmod x 10).natAbs = x.natAbs % 10 := by
  rw [Int.natAbs_tmod]; rfl
theorem tmod_rng (x : Int) : -10 < Int.tmod x 10 ∧ Int.tmod x 10 < 10 := by
  have h1 := tmod_abs x
  omega
theorem tdiv_rng {x : Int} (h0 : -9223372036854775808 ≤ x) (h1 : x ≤ 9223372036854775807) : -922337203685477580 ≤ Int.tdiv x 10 ∧ Int.tdiv x 10 ≤ 922337203685477580 := by
  have h := tdiv_abs x
  omega
theorem body_step {n : Nat} (h : n ≠ 0) : body n = body (n / 10) ++ [UInt8.ofNat (48 + n % 10)] := by
  unfold body
  rw [if_neg h]
  by_cases h9 : n < 10
  · have : n / 10 = 0 := by omega
    rw [natDigs_lt h9, if_pos this, List.nil_append, Nat.mod_eq_of_lt h9]
  · have : ¬ n / 10 = 0 := by omega
    rw [natDigs_ge h9, if_neg this]
theorem body_len {n : Nat} (h : n ≤ 9223372036854775808) : (body n).length ≤ 19 := by
  unfold body
  split
  · simp
  · exact natDigs_len20 h
theorem spec_loop (b : Bool) : ∀ (n : Nat) (x : Int) (out : List UInt8) (k : Nat), x.natAbs = n → -9223372036854775808 ≤ x → x ≤ 9223372036854775807 → n < k → out.length + (body n).length < 9223372036854775700 →
    spec_Digits.l0 k x b ⟨out.toArray⟩ = some ⟨(sgn b ++ body n ++ out).toArray⟩ := by
  intro n
  induction n using Nat.strongRecOn with
  | _ n ih =>
    intro x out k hx h0 h1 hk hl
    obtain ⟨k, rfl⟩ : ∃ m, k = m + 1 := ⟨k - 1, by omega⟩
    simp only [spec_Digits.l0]
    by_cases hz : x = 0
    · subst hz
      have hn : n = 0 := by simpa using hx.symm
      subst hn
      rw [if_pos rfl]
      cases b
      · simp [sgn, body]
      · rw [if_pos rfl, if_pos (by rw [ba_size]; omega)]
        rw [show (⟨#[45]⟩ : ByteArray) = ⟨[45].toArray⟩ from rfl, ba_append]
        simp [sgn, body]
    · have hn : n ≠ 0 := by omega
      have hm := tmod_rng x
      have hma := tmod_abs x
      have hd := tdiv_rng h0 h1
      have hda := tdiv_abs x
      rw [if_neg hz]
      have key : ∀ D : Int, D = ((48 + n % 10 : Nat) : Int) → ((some ([D % 256] : List Int)).bind fun y => if (strOfNums y).size + (⟨out.toArray⟩ : ByteArray).size ≤ 9223372036854775807 then spec_Digits.l0 k (wrap64 (Int.tdiv x 10)) b (strOfNums y ++ ⟨out.toArray⟩) else none) = some ⟨(sgn b ++ body n ++ out).toArray⟩ := by
        intro D hD
        subst hD
        have e : (((48 + n % 10 : Nat) : Int) % 256) = ((48 + n % 10 : Nat) : Int) := by omega
        rw [Option.bind_some, e, str_digit _ (by omega), show (⟨#[UInt8.ofNat (48 + n % 10)]⟩ : ByteArray) = ⟨[UInt8.ofNat (48 + n % 10)].toArray⟩ from rfl, ba_size, ba_size, if_pos (by simp only [List.length_singleton]; omega), ba_append, w64 (by omega) (by omega)]
        rw [ih (n / 10) (by omega) (Int.tdiv x 10) _ k (by rw [hda, hx]) (by omega) (by omega) (by omega) (by rw [body_step hn] at hl; simp only [List.length_append, List.length_cons, List.length_nil] at hl ⊢; omega)]
        rw [body_step hn]
        simp
      by_cases hneg : Int.tmod x 10 < 0
      · rw [if_pos hneg]
        exact key _ (by rw [w64 (i := -(Int.tmod x 10)) (by omega) (by omega), w64 (by omega) (by omega)]; omega)
      · rw [if_neg hneg]
        exact key _ (by rw [w64 (by omega) (by omega)]; omega)
theorem spec_digits (n : Int) (h0 : -9223372036854775808 ≤ n) (h1 : n ≤ 9223372036854775807) (k : Nat) (hk : n.natAbs < k) : spec_Digits.f k n = some (digits n) := by
  unfold spec_Digits.f
  by_cases hz : n = 0
  · rw [if_pos hz]
    subst hz
    unfold digits
    rw [show (0 : Int).natAbs = 0 from rfl, natDigs_lt (by omega)]
    rfl
  · rw [if_neg hz, show (⟨#[]⟩ : ByteArray) = ⟨([] : List UInt8).toArray⟩ from rfl, spec_loop _ n.natAbs n [] k rfl h0 h1 hk (by have := body_len (n := n.natAbs) (by omega); simp only [List.length_nil]; omega)]
    unfold digits sgn body
    have : ¬ n.natAbs = 0 := by omega
    by_cases h : n < 0 <;> simp [h, this]
theorem impl_nat : ∀ (n : Nat) (k : Nat), n ≤ 9223372036854775807 → 2 * n + 1 < k → impl_Digits.f k (n : Int) = some ⟨(natDigs n).toArray⟩ := by
  intro n
  induction n using Nat.strongRecOn with
  | _ n ih =>
    intro k hn hk
    obtain ⟨k, rfl⟩ : ∃ m, k = m + 2 := ⟨k - 2, by omega⟩
    simp only [impl_Digits.f]
    rw [if_neg (by omega)]
    simp only [impl_Digits.j0]
    rw [if_neg (by simp), if_neg (by omega)]
    by_cases h : n < 10
    · rw [if_pos (by omega), natDigs_lt h]
      have e : wrap32 (wrap64 (48 + (n : Int))) = ((48 + n : Nat) : Int) := by rw [w64 (by omega) (by omega), w32 (by omega) (by omega)]; omega
      rw [e, enc_digit n h]
    · rw [if_neg (by omega)]
      have hd : wrap64 (Int.tdiv (n : Int) 10) = ((n / 10 : Nat) : Int) := by
        have := tdiv_abs (n : Int)
        rw [Int.tdiv_eq_ediv_of_nonneg (by omega), w64 (by omega) (by omega)]
        omega
      have hm : Int.tmod (n : Int) 10 = ((n % 10 : Nat) : Int) := by rw [Int.tmod_eq_emod_of_nonneg (by omega)]; omega
      have e : wrap32 (wrap64 (48 + Int.tmod (n : Int) 10)) = ((48 + n % 10 : Nat) : Int) := by rw [hm, w64 (by omega) (by omega), w32 (by omega) (by omega)]; omega
      rw [hd, ih (n / 10) (by omega) k (by omega) (by omega), Option.bind_some, e, enc_digit _ (by omega)]
      have hl := natDigs_len20 (n := n / 10) (by omega)
      rw [show (⟨#[UInt8.ofNat (48 + n % 10)]⟩ : ByteArray) = ⟨[UInt8.ofNat (48 + n % 10)].toArray⟩ from rfl, ba_size, ba_size, if_pos (by simp; omega), ba_append, ← natDigs_ge h]
theorem impl_neg : ∀ (n : Nat) (k : Nat), 0 < n → n ≤ 9223372036854775808 → 2 * n + 25 < k → impl_Digits.f k (-(n : Int)) = some ⟨(45 :: natDigs n).toArray⟩ := by
  intro n
  induction n using Nat.strongRecOn with
  | _ n ih =>
    intro k h0 hn hk
    obtain ⟨k, rfl⟩ : ∃ m, k = m + 2 := ⟨k - 2, by omega⟩
    simp only [impl_Digits.f]
    rw [if_pos (by omega)]
    simp only [impl_Digits.j0]
    have hl := natDigs_len20 hn
    by_cases h : n < 10
    · rw [if_pos (by simp; omega), w64 (by omega) (by omega), Int.neg_neg, impl_nat n k (by omega) (by omega), Option.bind_some, ba_size, if_pos (by omega), show (⟨#[45]⟩ : ByteArray) = ⟨[45].toArray⟩ from rfl, ba_append]
      rfl
    · rw [if_neg (by simp; omega), if_pos (by omega)]
      have hda := tdiv_abs (-(n : Int))
      have hma := tmod_abs (-(n : Int))
      have hd : wrap64 (Int.tdiv (-(n : Int)) 10) = -((n / 10 : Nat) : Int) := by
        rw [Int.neg_tdiv, Int.tdiv_eq_ediv_of_nonneg (by omega), w64 (by omega) (by omega)]
        omega
      have hm : wrap64 (-(Int.tmod (-(n : Int)) 10)) = ((n % 10 : Nat) : Int) := by
        rw [Int.neg_tmod, Int.neg_neg, Int.tmod_eq_emod_of_nonneg (by omega), w64 (by omega) (by omega)]
        omega
      rw [hd, ih (n / 10) (by omega) k (by omega) (by omega) (by omega), Option.bind_some, hm, impl_nat (n % 10) k (by omega) (by omega), Option.bind_some, ba_size, ba_size]
      have hl2 := natDigs_len20 (n := n / 10) (by omega)
      have hl3 := natDigs_len20 (n := n % 10) (by omega)
      rw [if_pos (by simp; omega), ba_append, natDigs_ge h, natDigs_lt (n := n % 10) (by omega)]
      simp
theorem impl_digits (n : Int) (h0 : -9223372036854775808 ≤ n) (h1 : n ≤ 9223372036854775807) (k : Nat) (hk : 2 * n.natAbs + 25 < k) : impl_Digits.f k n = some (digits n) := by
  unfold digits
  by_cases h : n < 0
  · have e : n = -((n.natAbs : Nat) : Int) := by omega
    rw [if_pos h]
    conv => lhs; rw [e]
    exact impl_neg n.natAbs k (by omega) (by omega) hk
  · have e : n = ((n.natAbs : Nat) : Int) := by omega
    rw [if_neg h]
    conv => lhs; rw [e]
    exact impl_nat n.natAbs k (by omega) (by omega)
def BIG : Nat := 30000000000000
end Go.Proofs.YtdlhidjphaaklaaGreat.M
end
section
namespace Go.Proofs.YtdlhidjphaaklaaGreat.M
open Go.RowKit Go.Proofs.YtdlhidjphaaklaaGreat.P Go.Proofs.YtdlhidjphaaklaaGreatW.PrintWords
def amountText (n : Int) : ByteArray :=
  if inB n 0 1000000000000 = true then (if n ≠ 0 ∧ n % 1000000 = 0 then digits (n / 1000000) ++ ⟨#[107]⟩ else if n % 1000 = 0 then digits (n / 1000) else digits n ++ ⟨#[109]⟩) else ⟨#[]⟩
def spanText (n : Int) : ByteArray :=
  if inB n 0 1000000 = true then (if n ≠ 0 ∧ n % 3600 = 0 then digits (n / 3600) ++ ⟨#[104]⟩ else if n ≠ 0 ∧ n % 60 = 0 then digits (n / 60) ++ ⟨#[109]⟩ else digits n ++ ⟨#[115]⟩) else ⟨#[]⟩
theorem digits_size {n : Int} (h0 : -9223372036854775808 ≤ n) (h1 : n ≤ 9223372036854775807) : (digits n).size ≤ 20 := by
  unfold digits
  rw [ba_size, List.length_append]
  have := natDigs_len20 (n := n.natAbs) (by omega)
  split <;> simp <;> omega
theorem ite_size {a : ByteArray} {b : ByteArray} (h : a.size ≤ 20) : (if a.size + 1 ≤ 9223372036854775807 then some (a ++ b) else none) = some (a ++ b) := if_pos (by omega)
theorem spec_amountText (n : Int) (k : Nat) (hk : BIG < k) : spec_AmountText.f k n = some (amountText n) := by
  unfold BIG at hk
  obtain ⟨k, rfl⟩ : ∃ m, k = m + 1 := ⟨k - 1, by omega⟩
  unfold spec_AmountText.f amountText
  rw [l1In_eq, Option.bind_some]
  by_cases h : inB n 0 1000000000000 = true
  · obtain ⟨h0, h1⟩ := in_rng h
    rw [if_pos h, if_pos h]
    simp only [spec_AmountText.j0, tdiv_n h0, tmod_n h0]
    rw [w64 (i := n / 1000000) (by omega) (by omega), w64 (i := n / 1000) (by omega) (by omega), spec_digits _ (by omega) (by omega) k (by omega), spec_digits _ (by omega) (by omega) k (by omega), spec_digits _ (by omega) (by omega) k (by omega)]
    simp only [Option.bind_some]
    rw [ite_size (digits_size (by omega) (by omega)), ite_size (digits_size (by omega) (by omega))]
    by_cases hz : n = 0
    · subst hz; rfl
    · have : n > 0 := by omega
      rw [if_pos this]
      by_cases hm : n % 1000000 = 0
      · simp [hm, hz]
      · by_cases hm2 : n % 1000 = 0 <;> simp [hm, hz, hm2]
  · rw [if_neg h, if_neg h]
theorem impl_amountText (n : Int) (k : Nat) (hk : BIG < k) : impl_AmountText.f k n = some (amountText n) := by
  unfold BIG at hk
  obtain ⟨k, rfl⟩ : ∃ m, k = m + 1 := ⟨k - 1, by omega⟩
  unfold impl_AmountText.f amountText impl_isAmount.f
  rw [from_eq, Option.bind_some, Option.bind_some]
  by_cases h : inB n 0 1000000000000 = true
  · obtain ⟨h0, h1⟩ := in_rng h
    rw [if_pos h, if_pos h]
    simp only [impl_AmountText.j0, tdiv_n h0, tmod_n h0]
    rw [w64 (i := n / 1000000) (by omega) (by omega), w64 (i := n / 1000) (by omega) (by omega), impl_digits _ (by omega) (by omega) k (by omega), impl_digits _ (by omega) (by omega) k (by omega), impl_digits _ (by omega) (by omega) k (by omega)]
    simp only [Option.bind_some]
    rw [ite_size (digits_size (by omega) (by omega)), ite_size (digits_size (by omega) (by omega))]
    by_cases hz : n = 0
    · subst hz; rfl
    · rw [if_neg hz]
      by_cases hm : n % 1000000 = 0
      · simp [hm, hz]
      · by_cases hm2 : n % 1000 = 0 <;> simp [hm, hz, hm2]
  · rw [if_neg h, if_neg h]
theorem spec_spanText (n : Int) (k : Nat) (hk : BIG < k) : spec_SpanText.f k n = some (spanText n) := by
  unfold BIG at hk
  obtain ⟨k, rfl⟩ : ∃ m, k = m + 2 := ⟨k - 2, by omega⟩
  unfold spec_SpanText.f spanText
  rw [l1In_eq, Option.bind_some]
  by_cases h : inB n 0 1000000 = true
  · obtain ⟨h0, h1⟩ := in_rng h
    rw [if_pos h, if_pos h]
    simp only [spec_SpanText.j0, spec_SpanText.j1, tdiv_n h0, tmod_n h0]
    rw [w64 (i := n / 3600) (by omega) (by omega), w64 (i := n / 60) (by omega) (by omega), spec_digits _ (by omega) (by omega) k (by omega), spec_digits _ (by omega) (by omega) (k + 1) (by omega), spec_digits _ (by omega) (by omega) k (by omega)]
    simp only [Option.bind_some]
    rw [ite_size (digits_size (by omega) (by omega)), ite_size (digits_size (by omega) (by omega)), ite_size (digits_size (by omega) (by omega))]
    by_cases hz : n = 0
    · subst hz; rfl
    · have : n > 0 := by omega
      rw [if_pos this, if_pos this]
      by_cases hm : n % 3600 = 0
      · simp [hm, hz]
      · by_cases hm2 : n % 60 = 0 <;> simp [hm, hz, hm2]
  · rw [if_neg h, if_neg h]
theorem impl_spanText (n : Int) (k : Nat) (hk : BIG < k) : impl_SpanText.f k n = some (spanText n) := by
  unfold BIG at hk
  obtain ⟨k, rfl⟩ : ∃ m, k = m + 2 := ⟨k - 2, by omega⟩
  unfold impl_SpanText.f spanText
  rw [from_eq, Option.bind_some]
  by_cases h : inB n 0 1000000 = true
  · obtain ⟨h0, h1⟩ := in_rng h
    rw [if_pos h, if_pos h]
    simp only [impl_SpanText.j0, impl_SpanText.j1, tdiv_n h0, tmod_n h0]
    rw [w64 (i := n / 3600) (by omega) (by omega), w64 (i := n / 60) (by omega) (by omega), impl_digits _ (by omega) (by omega) k (by omega), impl_digits _ (by omega) (by omega) (k + 1) (by omega), impl_digits _ (by omega) (by omega) k (by omega)]
    simp only [Option.bind_some]
    rw [ite_size (digits_size (by omega) (by omega)), ite_size (digits_size (by omega) (by omega)), ite_size (digits_size (by omega) (by omega))]
    by_cases hz : n = 0
    · subst hz; rfl
    · rw [if_neg hz]
      by_cases hm : n % 3600 = 0
      · simp [hm, hz]
      · by_cases hm2 : n % 60 = 0 <;> simp [hm, hz, hm2]
  · rw [if_neg h, if_neg h]
end Go.Proofs.YtdlhidjphaaklaaGreat.M
end
section
namespace Go.Proofs.YtdlhidjphaaklaaGreat.M
open Go.RowKit Go.Proofs.YtdlhidjphaaklaaGreat.P Go.Proofs.YtdlhidjphaaklaaGreatW.PrintWords
theorem isDigit_eq (c : Int) : impl_isDigit.f c = some (digB c) := l1In_eq c 48 57
end Go.Proofs.YtdlhidjphaaklaaGreat.M
end
section
namespace Go.Proofs.YtdlhidjphaaklaaGreat.M
open Go.RowKit Go.Proofs.YtdlhidjphaaklaaGreat.P Go.Proofs.YtdlhidjphaaklaaGreatW.PrintWords
theorem spec_nameOk (s : ByteArray) (hs : s.size ≤ 140737488351232) (k : Nat) (hk : s.size < k) : spec_NameOk.f k s = some (nameOk s) := by
  unfold spec_NameOk.f nameOk
  refine scan0 (g := fun k i => spec_NameOk.l0 k s i) (fun k => ?_) (fun k i hi => ?_) k hk
  · simp only [spec_NameOk.l0]
    rw [if_neg (by omega), l1In_eq]
    rfl
  · simp only [spec_NameOk.l0]
    rw [if_pos (by omega), if_pos (by omega), wsucc (by omega)]
    generalize spec_NameOk.l0 k s ((i + 1 : Nat) : Int) = X
    by_cases hb : nameB s i = true
    · rw [if_pos hb]
      simp only [nameB, lowB, digB, Bool.or_eq_true, Bool.and_eq_true, decide_eq_true_eq] at hb ⊢
      repeat' split
      all_goals first | rfl | (exfalso; omega)
    · rw [if_neg hb]
      simp only [nameB, lowB, digB, Bool.or_eq_true, Bool.and_eq_true, decide_eq_true_eq] at hb ⊢
      repeat' split
      all_goals first | rfl | (exfalso; omega)
theorem impl_nameOk (s : ByteArray) (hs : s.size ≤ 140737488351232) (k : Nat) (hk : s.size < k) : impl_NameOk.f k s = some (nameOk s) := by
  unfold impl_NameOk.f nameOk
  refine scan0 (g := fun k i => impl_NameOk.l0 k s (s.size : Int) i) (fun k => ?_) (fun k i hi => ?_) k hk
  · simp only [impl_NameOk.l0]
    rw [if_neg (by omega), from_eq]
    rfl
  · simp only [impl_NameOk.l0, isDigit_eq, Option.bind_some]
    rw [if_pos (by omega), if_pos (by omega), if_pos (by omega), wsucc (by omega)]
    generalize impl_NameOk.l0 k s (s.size : Int) ((i + 1 : Nat) : Int) = X
    by_cases hb : nameB s i = true
    · rw [if_pos hb]
      simp only [nameB, lowB, digB, Bool.or_eq_true, Bool.and_eq_true, decide_eq_true_eq] at hb ⊢
      repeat' split
      all_goals first | rfl | (exfalso; omega)
    · rw [if_neg hb]
      simp only [nameB, lowB, digB, Bool.or_eq_true, Bool.and_eq_true, decide_eq_true_eq] at hb ⊢
      repeat' split
      all_goals first | rfl | (exfalso; omega)
end Go.Proofs.YtdlhidjphaaklaaGreat.M
end
section
namespace Go.Proofs.YtdlhidjphaaklaaGreat.M
open Go.RowKit Go.Proofs.YtdlhidjphaaklaaGreat.P Go.Proofs.YtdlhidjphaaklaaGreatW.PrintWords
theorem isLetter_eq (c : Int) : impl_isLetter.f c = some (lowB c || upB c) := by
  unfold impl_isLetter.f lowB upB
  by_cases h1 : c ≥ 97 <;> by_cases h2 : c ≤ 122 <;> by_cases h3 : c ≥ 65 <;> by_cases h4 : c ≤ 90 <;> (try (exfalso; omega)) <;> simp [h1, h2, h3, h4] <;> omega
theorem l5Letter_eq (c : Int) : spec_l5Letter.f c = some (lowB c || upB c) := isLetter_eq c
theorem idx_plain : ∀ c : Fin 256, decide (Lib.indexByte ([95, 46, 47, 45] : List UInt8) (UInt8.ofNat c.val) < 0) = !(decide (c.val = 95) || decide (c.val = 46) || decide (c.val = 47) || decide (c.val = 45)) := by decide +kernel
theorem idx_plain' (s : ByteArray) (i : Int) : (Lib.indexByte (⟨#[95, 46, 47, 45]⟩ : ByteArray).data.toList (bt s i).toNat.toUInt8 < 0) ↔ ¬ (bt s i = 95 ∨ bt s i = 46 ∨ bt s i = 47 ∨ bt s i = 45) := by
  have hb := bt_range s i
  have h := idx_plain ⟨(bt s i).toNat, by omega⟩
  have e : decide (Lib.indexByte (⟨#[95, 46, 47, 45]⟩ : ByteArray).data.toList (bt s i).toNat.toUInt8 < 0) = decide (Lib.indexByte ([95, 46, 47, 45] : List UInt8) (UInt8.ofNat (bt s i).toNat) < 0) := rfl
  constructor
  · intro h1
    have h2 := decide_eq_true h1
    rw [e, h] at h2
    simp only [Bool.not_eq_true', Bool.or_eq_false_iff, decide_eq_false_iff_not] at h2
    omega
  · intro h1
    refine of_decide_eq_true ?_
    rw [e, h]
    simp only [Bool.not_eq_true', Bool.or_eq_false_iff, decide_eq_false_iff_not]
    omega
theorem plain_tail (s : ByteArray) : ((some (inB (s.size : Int) 1 60)).bind fun t => (if t = true then (if s.toList = ([110, 117, 108, 108] : List UInt8) then (some false) else (if s.toList = ([116, 114, 117, 101] : List UInt8) then (some false) else (some (s.toList != ([102, 97, 108, 115, 101] : List UInt8))))) else (some false))) = some (plainEnd s) := by
  rw [Option.bind_some]
  unfold plainEnd
  cases inB s.size 1 60
  · rfl
  · rw [if_pos rfl, Bool.true_and]
    by_cases h1 : s.toList = ([110, 117, 108, 108] : List UInt8)
    · rw [if_pos h1]; simp [h1]
    · rw [if_neg h1]
      by_cases h2 : s.toList = ([116, 114, 117, 101] : List UInt8)
      · rw [if_pos h2]; simp [h2]
      · rw [if_neg h2]
        by_cases h3 : s.toList = ([102, 97, 108, 115, 101] : List UInt8) <;> simp [h1, h2, h3]
theorem plain_end_spec (s : ByteArray) (k : Nat) : spec_PlainOk.l0 (k + 1) s (s.size : Int) = some (plainEnd s) := by
  simp only [spec_PlainOk.l0]
  rw [if_neg (by omega), l1In_eq]
  exact plain_tail s
theorem plain_end_impl (s : ByteArray) (k : Nat) : impl_PlainOk.l0 (k + 1) s (s.size : Int) (s.size : Int) = some (plainEnd s) := by
  simp only [impl_PlainOk.l0]
  rw [if_neg (by omega), from_eq]
  exact plain_tail s
theorem spec_plainOk (s : ByteArray) (hs : s.size ≤ 140737488351232) (k : Nat) (hk : s.size < k) : spec_PlainOk.f k s = some (plainOk s) := by
  unfold spec_PlainOk.f plainOk
  refine scan0 (g := fun k i => spec_PlainOk.l0 k s i) (fun k => plain_end_spec s k) (fun k i hi => ?_) k hk
  simp only [spec_PlainOk.l0, l5Letter_eq, Option.bind_some]
  rw [if_pos (by omega), if_pos (by omega), wsucc (by omega)]
  generalize spec_PlainOk.l0 k s ((i + 1 : Nat) : Int) = X
  by_cases hb : plainB s i = true
  · rw [if_pos hb]
    simp only [plainB, lowB, upB, digB, Bool.or_eq_true, Bool.and_eq_true, decide_eq_true_eq] at hb ⊢
    repeat' split
    all_goals first | rfl | (exfalso; omega)
  · rw [if_neg hb]
    simp only [plainB, lowB, upB, digB, Bool.or_eq_true, Bool.and_eq_true, decide_eq_true_eq] at hb ⊢
    repeat' split
    all_goals first | rfl | (exfalso; omega)
theorem impl_plainOk (s : ByteArray) (hs : s.size ≤ 140737488351232) (k : Nat) (hk : s.size < k) : impl_PlainOk.f k s = some (plainOk s) := by
  unfold impl_PlainOk.f plainOk
  refine scan0 (g := fun k i => impl_PlainOk.l0 k s (s.size : Int) i) (fun k => plain_end_impl s k) (fun k i hi => ?_) k hk
  have hx := idx_plain' s i
  simp only [impl_PlainOk.l0, isLetter_eq, isDigit_eq, strings_IndexByte.f, Option.bind_some]
  rw [if_pos (by omega), if_pos (by omega), if_pos (by omega), wsucc (by omega)]
  generalize impl_PlainOk.l0 k s (s.size : Int) ((i + 1 : Nat) : Int) = X
  simp only [hx]
  by_cases hb : plainB s i = true
  · rw [if_pos hb]
    simp only [plainB, lowB, upB, digB, Bool.or_eq_true, Bool.and_eq_true, decide_eq_true_eq] at hb ⊢
    repeat' split
    all_goals first | rfl | (exfalso; omega)
  · rw [if_neg hb]
    simp only [plainB, lowB, upB, digB, Bool.or_eq_true, Bool.and_eq_true, decide_eq_true_eq] at hb ⊢
    repeat' split
    all_goals first | rfl | (exfalso; omega)
end Go.Proofs.YtdlhidjphaaklaaGreat.M
end
section
namespace Go.Proofs.YtdlhidjphaaklaaGreat.M
open Go.RowKit Go.Proofs.YtdlhidjphaaklaaGreat.P Go.Proofs.YtdlhidjphaaklaaGreatW.PrintWords
def ours (s : ByteArray) : Bool := if (s.size : Int) ≥ 5 then (s.extract 0 5).toList == ([113, 117, 97, 121, 47] : List UInt8) else false
theorem l6Ours_eq (s : ByteArray) : spec_l6Ours.f s = some (ours s) := by
  unfold spec_l6Ours.f ours
  by_cases h : (s.size : Int) ≥ 5
  · rw [if_pos h, if_pos h, if_pos (by decide), if_pos (by omega)]
  · rw [if_neg h, if_neg h]
theorem quay_prefix (s : ByteArray) : strings_HasPrefix.f s (⟨#[113, 117, 97, 121, 47]⟩ : ByteArray) = some (ours s) := by
  unfold strings_HasPrefix.f stringslite_HasPrefix.f ours
  have e : ((⟨#[113, 117, 97, 121, 47]⟩ : ByteArray).size : Int) = 5 := rfl
  have e2 : (⟨#[113, 117, 97, 121, 47]⟩ : ByteArray).toList = ([113, 117, 97, 121, 47] : List UInt8) := by rw [Lib.toList_data]
  rw [e, e2]
  by_cases h : (s.size : Int) ≥ 5
  · rw [if_pos h, if_pos h, if_pos (by decide), if_pos (by omega)]; rfl
  · rw [if_neg h, if_neg h]; rfl
def metricOk (m : S61) : Bool := nameOk m.f0 && (inB m.f1 1 3 && inB m.f2 1 1000000)
theorem spec_metricOk (m : S61) (hs : m.f0.size ≤ 140737488351232) (k : Nat) (hk : m.f0.size < k) : spec_MetricOk.f k m.f0 m.f1 m.f2 = some (metricOk m) := by
  unfold spec_MetricOk.f metricOk
  rw [spec_nameOk _ hs k hk, l1In_eq, l1In_eq]
  cases nameOk m.f0 <;> cases inB m.f1 1 3 <;> simp
theorem impl_metricOk (m : S61) (hs : m.f0.size ≤ 140737488351232) (k : Nat) (hk : m.f0.size < k) : impl_MetricOk.f k m.f0 m.f1 m.f2 = some (metricOk m) := by
  unfold impl_MetricOk.f metricOk
  rw [impl_nameOk _ hs k hk, from_eq, from_eq]
  cases nameOk m.f0 <;> cases inB m.f1 1 3 <;> simp
def paceOk (a b c d : Int) : Bool := inB a 0 1000 && (inB b 0 1000 && (inB c 0 3600 && inB d 0 3600))
theorem spec_paceOk (a b c d : Int) : spec_PaceOk.f a b c d = some (paceOk a b c d) := by
  simp only [spec_PaceOk.f, l1In_eq, Option.bind_some, paceOk]
  cases inB a 0 1000 <;> cases inB b 0 1000 <;> cases inB c 0 3600 <;> cases inB d 0 3600 <;> simp
theorem impl_paceOk (a b c d : Int) : impl_PaceOk.f a b c d = some (paceOk a b c d) := by
  simp only [impl_PaceOk.f, impl_isMany.f, from_eq, Option.bind_some, paceOk]
  cases inB a 0 1000 <;> cases inB b 0 1000 <;> cases inB c 0 3600 <;> cases inB d 0 3600 <;> simp
def mStep (ms : List S61) (i : Nat) : Bool := metricOk (rd_T61 ms i) && (decide (i = 0) || Op.bytesLess ((rd_T61 ms (wrap64 ((i : Int) - 1))).f0.toList) ((rd_T61 ms i).f0.toList))
def nStep (ns : List S124) (i : Nat) : Bool := plainOk (rd_T124 ns i).f0 && (!ours (rd_T124 ns i).f0 && (textOk (rd_T124 ns i).f1 && (!decide (((rd_T124 ns i).f1.size : Int) > 40) && (decide (i = 0) || Op.bytesLess ((rd_T124 ns (wrap64 ((i : Int) - 1))).f0.toList) ((rd_T124 ns i).f0.toList)))))
def metricsOk (ms : List S61) : Bool := (List.range' 0 ms.length).all (mStep ms) && decide ((ms.length : Int) ≤ 4)
def notesOk (ns : List S124) : Bool := (List.range' 0 ns.length).all (nStep ns) && decide ((ns.length : Int) ≤ 4)
theorem spec_metrics (ms : List S61) (hl : ms.length ≤ 1048576) (hs : ∀ m ∈ ms, m.f0.size ≤ 1048576) (k : Nat) (hk : ms.length + 1048577 < k) : spec_l6Metrics.f k ms = some (metricsOk ms) := by
  unfold spec_l6Metrics.f metricsOk
  have e := scanK (g := fun k i => spec_l6Metrics.l0 k ms i) (n := ms.length) (K := 1048577) (P := mStep ms) (e := decide ((ms.length : Int) ≤ 4)) (fun k _ => by simp only [spec_l6Metrics.l0]; rw [if_neg (by omega)])
    (fun k i hk hi => by
      have er : rd_T61 ms (i : Int) = ms[i] := getD_at ms _ i hi
      simp only [spec_l6Metrics.l0]
      rw [if_pos (by omega), if_pos (by omega), spec_metricOk _ (by rw [er]; have := hs _ (List.getElem_mem hi); omega) k (by rw [er]; have := hs _ (List.getElem_mem hi); omega), Option.bind_some, wsucc (by omega)]
      unfold mStep
      cases metricOk (rd_T61 ms i)
      · simp
      · rcases Nat.eq_zero_or_pos i with rfl | h0
        · simp
        · rw [if_pos rfl, if_pos (by omega), if_pos (by rw [w64 (by omega) (by omega)]; omega), if_pos (by rw [w64 (by omega) (by omega)]; omega), decide_eq_false (by omega), Bool.true_and, Bool.false_or]) ms.length 0 k (by omega) (by omega)
  have e0 : ((0 : Nat) : Int) = 0 := rfl
  rw [e0] at e
  rw [e]
theorem spec_notes (ns : List S124) (hl : ns.length ≤ 1048576) (hs : ∀ m ∈ ns, m.f0.size ≤ 1048576 ∧ m.f1.size ≤ 1048576) (k : Nat) (hk : ns.length + 1048577 < k) : spec_l6Notes.f k ns = some (notesOk ns) := by
  unfold spec_l6Notes.f notesOk
  have e := scanK (g := fun k i => spec_l6Notes.l0 k ns i) (n := ns.length) (K := 1048577) (P := nStep ns) (e := decide ((ns.length : Int) ≤ 4)) (fun k _ => by simp only [spec_l6Notes.l0]; rw [if_neg (by omega)])
    (fun k i hk hi => by
      have er : rd_T124 ns (i : Int) = ns[i] := getD_at ns _ i hi
      have h1 := hs _ (List.getElem_mem hi)
      simp only [spec_l6Notes.l0]
      rw [if_pos (by omega), if_pos (by omega), spec_plainOk _ (by rw [er]; omega) k (by rw [er]; omega), Option.bind_some, l6Ours_eq, Option.bind_some, spec_textOk _ (by rw [er]; omega) k (by rw [er]; omega), Option.bind_some, wsucc (by omega)]
      unfold nStep
      cases plainOk (rd_T124 ns i).f0
      · simp
      cases ours (rd_T124 ns i).f0
      · cases textOk (rd_T124 ns i).f1
        · simp
        · by_cases h40 : ((rd_T124 ns i).f1.size : Int) > 40
          · simp [h40]
          · rcases Nat.eq_zero_or_pos i with rfl | h0
            · rw [if_pos rfl, if_neg (by simp), if_pos rfl, if_neg h40, if_neg (by omega), decide_eq_false h40]
              simp
            · rw [if_pos rfl, if_neg (by simp), if_pos rfl, if_neg h40, if_pos (by omega), if_pos (by rw [w64 (by omega) (by omega)]; omega), if_pos (by rw [w64 (by omega) (by omega)]; omega), decide_eq_false (by omega : ¬ i = 0), decide_eq_false h40]
              simp
      · simp) ns.length 0 k (by omega) (by omega)
  have e0 : ((0 : Nat) : Int) = 0 := rfl
  rw [e0] at e
  rw [e]
theorem impl_notes (ns : List S124) (hl : ns.length ≤ 1048576) (hs : ∀ m ∈ ns, m.f0.size ≤ 1048576 ∧ m.f1.size ≤ 1048576) (k : Nat) (hk : ns.length + 1048577 < k) : impl_notesOk.f k ns = some (notesOk ns) := by
  unfold impl_notesOk.f notesOk
  have e := scanK (g := fun k i => impl_notesOk.l0 k ns ns (ns.length : Int) i) (n := ns.length) (K := 1048577) (P := nStep ns) (e := decide ((ns.length : Int) ≤ 4)) (fun k _ => by simp only [impl_notesOk.l0]; rw [if_neg (by omega)])
    (fun k i hk hi => by
      have er : rd_T124 ns (i : Int) = ns[i] := getD_at ns _ i hi
      have h1 := hs _ (List.getElem_mem hi)
      simp only [impl_notesOk.l0]
      rw [if_pos (by omega), if_pos (by omega), if_pos (by omega), impl_plainOk _ (by rw [er]; omega) k (by rw [er]; omega), Option.bind_some, quay_prefix, Option.bind_some, impl_textOk _ (by rw [er]; omega) k (by rw [er]; omega), Option.bind_some, wsucc (by omega)]
      unfold nStep
      cases plainOk (rd_T124 ns i).f0
      · simp
      cases ours (rd_T124 ns i).f0
      · cases textOk (rd_T124 ns i).f1
        · simp
        · by_cases h40 : ((rd_T124 ns i).f1.size : Int) > 40
          · simp [h40]
          · rcases Nat.eq_zero_or_pos i with rfl | h0
            · rw [if_pos rfl, if_neg (by simp), if_pos rfl, if_neg h40, if_neg (by omega), decide_eq_false h40]
              simp
            · rw [if_pos rfl, if_neg (by simp), if_pos rfl, if_neg h40, if_pos (by omega), if_pos (by rw [w64 (by omega) (by omega)]; omega), if_pos (by rw [w64 (by omega) (by omega)]; omega), decide_eq_false (by omega : ¬ i = 0), decide_eq_false h40]
              simp
      · simp) ns.length 0 k (by omega) (by omega)
  have e0 : ((0 : Nat) : Int) = 0 := rfl
  rw [e0] at e
  rw [e]
def orderOk (n t : ByteArray) (lo hi : Int) (ms : List S61) (p0 p1 p2 p3 : Int) (ns : List S124) : Bool := nameOk n && (nameOk t && (inB lo 1 hi && (decide (hi ≤ 1000) && (metricsOk ms && (paceOk p0 p1 p2 p3 && notesOk ns)))))
theorem spec_orderOk (n t : ByteArray) (lo hi : Int) (ms : List S61) (p0 p1 p2 p3 : Int) (ns : List S124) (h1 : n.size ≤ 1048576) (h2 : t.size ≤ 1048576) (h3 : ms.length ≤ 1048576) (h4 : ∀ m ∈ ms, m.f0.size ≤ 1048576)
    (h5 : ns.length ≤ 1048576) (h6 : ∀ m ∈ ns, m.f0.size ≤ 1048576 ∧ m.f1.size ≤ 1048576) (k : Nat) (hk : 4194304 < k) : spec_OrderOk.f k n t lo hi ms p0 p1 p2 p3 ns = some (orderOk n t lo hi ms p0 p1 p2 p3 ns) := by
  unfold spec_OrderOk.f orderOk
  simp only [spec_nameOk n (by omega) k (by omega), spec_nameOk t (by omega) k (by omega), l1In_eq, spec_metrics ms h3 h4 k (by omega), spec_paceOk, spec_notes ns h5 h6 k (by omega), Option.bind_some]
  cases nameOk n <;> cases nameOk t <;> cases inB lo 1 hi <;> cases metricsOk ms <;> cases paceOk p0 p1 p2 p3 <;> by_cases h : hi ≤ 1000 <;> simp [h]
theorem impl_orderOk (n t : ByteArray) (lo hi : Int) (ms : List S61) (p0 p1 p2 p3 : Int) (ns : List S124) (h1 : n.size ≤ 1048576) (h2 : t.size ≤ 1048576) (h3 : ms.length ≤ 1048576) (h4 : ∀ m ∈ ms, m.f0.size ≤ 1048576)
    (h5 : ns.length ≤ 1048576) (h6 : ∀ m ∈ ns, m.f0.size ≤ 1048576 ∧ m.f1.size ≤ 1048576) (k : Nat) (hk : 4194304 < k) : impl_OrderOk.f k n t lo hi ms p0 p1 p2 p3 ns = some (orderOk n t lo hi ms p0 p1 p2 p3 ns) := by
  unfold impl_OrderOk.f
  have e := scanK (g := fun k i => impl_OrderOk.l0 k ms (ms.length : Int) i n t lo hi ms p0 p1 p2 p3 ns) (n := ms.length) (K := 2097154) (P := mStep ms) (e := nameOk n && (nameOk t && (inB lo 1 hi && (decide (hi ≤ 1000) && (decide ((ms.length : Int) ≤ 4) && (paceOk p0 p1 p2 p3 && notesOk ns))))))
    (fun k hk => by
      simp only [impl_OrderOk.l0]
      rw [if_neg (by omega)]
      simp only [impl_nameOk n (by omega) k (by omega), impl_nameOk t (by omega) k (by omega), from_eq, impl_paceOk, impl_notes ns h5 h6 k (by omega), Option.bind_some]
      cases nameOk n <;> cases nameOk t <;> cases inB lo 1 hi <;> cases paceOk p0 p1 p2 p3 <;> by_cases h : hi ≤ 1000 <;> by_cases h' : (ms.length : Int) ≤ 4 <;> simp [h, h'])
    (fun k i hk hi => by
      have er : rd_T61 ms (i : Int) = ms[i] := getD_at ms _ i hi
      have h1 := h4 _ (List.getElem_mem hi)
      simp only [impl_OrderOk.l0]
      rw [if_pos (by omega), if_pos (by omega), if_pos (by omega), impl_metricOk _ (by rw [er]; omega) k (by rw [er]; omega), Option.bind_some, wsucc (by omega)]
      unfold mStep
      cases metricOk (rd_T61 ms i)
      · simp
      · rcases Nat.eq_zero_or_pos i with rfl | h0
        · simp
        · rw [if_pos rfl, if_pos (by omega), if_pos (by rw [w64 (by omega) (by omega)]; omega), if_pos (by rw [w64 (by omega) (by omega)]; omega), decide_eq_false (by omega), Bool.true_and, Bool.false_or]) ms.length 0 k (by omega) (by omega)
  have e0 : ((0 : Nat) : Int) = 0 := rfl
  rw [e0] at e
  rw [e]
  unfold orderOk metricsOk
  cases nameOk n <;> cases nameOk t <;> cases inB lo 1 hi <;> cases (List.range' 0 ms.length).all (mStep ms) <;> cases paceOk p0 p1 p2 p3 <;> by_cases h : hi ≤ 1000 <;> by_cases h' : (ms.length : Int) ≤ 4 <;> simp [h, h']
end Go.Proofs.YtdlhidjphaaklaaGreat.M
end
section
namespace Go.Proofs.YtdlhidjphaaklaaGreat.H
open Go.RowKit Go.Proofs.YtdlhidjphaaklaaGreat.P Go.Proofs.YtdlhidjphaaklaaGreatW.PrintWords Go.Proofs.YtdlhidjphaaklaaGreatW.PrintLast Go.Proofs.YtdlhidjphaaklaaGreat.M
section
variable {P : Program} {ops : Array Oper} {Q : Exit → Act → World → Prop}
end
theorem sum_set_le (l : List Nat) (i n : Nat) : (l.set i n).sum ≤ l.sum + n := by
  induction l generalizing i with
  | nil => simp
  | cons x xs ih =>
    cases i with
    | zero => simp only [List.set_cons_zero, List.sum_cons]; omega
    | succ i => have := ih i; simp only [List.set_cons_succ, List.sum_cons]; omega
theorem cnt_setV (x : S32) (key : ByteArray) (y : S32) : cntTop (setV x key y) ≤ cntTop x + cntTop y + 4 := by
  have hy : cntK y = 3 + cntTop y := by rw [cntK_eq]; unfold cntTop; omega
  unfold setV
  split
  · split
    · rename_i i _
      unfold cntTop at hy ⊢
      simp only [List.map_set]
      have := sum_set_le (x.f4.map cntK) i (cntK y)
      omega
    · unfold cntTop at hy ⊢
      simp only [List.map_append, List.map_cons, List.sum_append, List.sum_cons, List.length_append, List.length_cons]
      have h1 : (x.f3.take (insAt x.f3 key)).length + (x.f3.drop (insAt x.f3 key)).length = x.f3.length := by rw [← List.length_append, List.take_append_drop]
      have h2 : ((x.f4.take (insAt x.f3 key)).map cntK).sum + ((x.f4.drop (insAt x.f3 key)).map cntK).sum = (x.f4.map cntK).sum := by rw [← List.sum_append, ← List.map_append, List.take_append_drop]
      omega
  · omega
end Go.Proofs.YtdlhidjphaaklaaGreat.H
end
section
namespace Go.Proofs.YtdlhidjphaaklaaGreat.H
open Go.RowKit Go.Proofs.YtdlhidjphaaklaaGreat.P Go.Proofs.YtdlhidjphaaklaaGreatW.PrintWords Go.Proofs.YtdlhidjphaaklaaGreat.M
abbrev Nd := S32
def tup (x : Nd) : Int × Int × ByteArray × List ByteArray × List Nd := (x.f0, x.f1, x.f2, x.f3, x.f4)
theorem eta_ (x : Nd) : (⟨x.f0, x.f1, x.f2, x.f3, x.f4⟩ : Nd) = x := by cases x; rfl
theorem iSet (x y : Nd) (key : ByteArray) (h : cntTop x ≤ 1099511627776) (h' : cntTop y ≤ 1099511627776) : impl_Set.f x.f0 x.f1 x.f2 x.f3 x.f4 key y.f0 y.f1 y.f2 y.f3 y.f4 = some (tup (setV x key y)) := by
  cases x
  cases y
  unfold impl_Set.f
  exact if_pos ⟨h, h'⟩
theorem sSet (x y : Nd) (key : ByteArray) (h : cntTop x ≤ 1099511627776) (h' : cntTop y ≤ 1099511627776) : spec_Set.f x.f0 x.f1 x.f2 x.f3 x.f4 key y.f0 y.f1 y.f2 y.f3 y.f4 = some (tup (setV x key y)) := by
  cases x
  cases y
  unfold spec_Set.f
  exact if_pos ⟨h, h'⟩
noncomputable def mapV (ks : List ByteArray) (kids : List Nd) : Nat → Nd
  | 0 => ⟨5, 0, ⟨#[]⟩, [], []⟩
  | i + 1 => setV (mapV ks kids i) (ks.getD i ByteArray.empty) (rd_T32 kids (i : Int))
theorem cnt_mapV (ks : List ByteArray) (kids : List Nd) (hk : ∀ y ∈ kids, cntTop y = 0) : ∀ i, i ≤ kids.length → cntTop (mapV ks kids i) ≤ 4 * i := by
  intro i
  induction i with
  | zero => intro _; simp [mapV, cntTop]
  | succ i ih =>
    intro hi
    have h1 := ih (by omega)
    have h2 := cnt_setV (mapV ks kids i) (ks.getD i ByteArray.empty) (rd_T32 kids (i : Int))
    have h3 : cntTop (rd_T32 kids (i : Int)) = 0 := by
      rw [rdT2 _ i (by omega)]
      exact hk _ (List.getElem_mem _)
    show cntTop (setV _ _ _) ≤ _
    omega
theorem impl_map_ev (ks : List ByteArray) (kids : List Nd) (hl : ks.length = kids.length) (hn : ks.length ≤ 1048576) (hk : ∀ y ∈ kids, cntTop y = 0) : Ev (fun k => impl_mapOf.f k ks kids) (tup (mapV ks kids ks.length)) := by
  unfold impl_mapOf.f
  refine ev_loop (l0 := fun k (s : Nd) i => impl_mapOf.l0 k kids ks (ks.length : Int) i s.f0 s.f1 s.f2 s.f3 s.f4) (n := ks.length) (mapV ks kids) ?_ ?_
  · exact Ev.lift (f := fun _ => some (tup (mapV ks kids ks.length))) (fun k => by simp only [impl_mapOf.l0]; rw [if_neg (by omega)]; rfl) (Ev.now _)
  · intro i hi h
    refine Ev.lift (f := fun k => impl_mapOf.l0 k kids ks (ks.length : Int) ((i + 1 : Nat) : Int) (mapV ks kids (i + 1)).f0 (mapV ks kids (i + 1)).f1 (mapV ks kids (i + 1)).f2 (mapV ks kids (i + 1)).f3 (mapV ks kids (i + 1)).f4) (fun k => ?_) h
    have h1 := cnt_mapV ks kids hk i (by omega)
    have h3 : cntTop (rd_T32 kids (i : Int)) = 0 := by
      rw [rdT2 _ i (by omega)]
      exact hk _ (List.getElem_mem _)
    simp only [impl_mapOf.l0]
    rw [if_pos (by omega), if_pos (by omega), if_pos (by omega), if_pos (by omega), iSet _ _ _ (by omega) (by omega), Option.bind_some, wsucc (by omega)]
    rfl
theorem spec_map_ev (ks : List ByteArray) (kids : List Nd) (hl : ks.length = kids.length) (hn : ks.length ≤ 1048576) (hk : ∀ y ∈ kids, cntTop y = 0) : Ev (fun k => spec_l7Map.f k ks kids) (tup (mapV ks kids ks.length)) := by
  unfold spec_l7Map.f
  refine ev_loop (l0 := fun k (s : Nd) i => spec_l7Map.l0 k ks kids i s.f0 s.f1 s.f2 s.f3 s.f4) (n := ks.length) (mapV ks kids) ?_ ?_
  · exact Ev.lift (f := fun _ => some (tup (mapV ks kids ks.length))) (fun k => by simp only [spec_l7Map.l0]; rw [if_neg (by omega)]; rfl) (Ev.now _)
  · intro i hi h
    refine Ev.lift (f := fun k => spec_l7Map.l0 k ks kids ((i + 1 : Nat) : Int) (mapV ks kids (i + 1)).f0 (mapV ks kids (i + 1)).f1 (mapV ks kids (i + 1)).f2 (mapV ks kids (i + 1)).f3 (mapV ks kids (i + 1)).f4) (fun k => ?_) h
    have h1 := cnt_mapV ks kids hk i (by omega)
    have h3 : cntTop (rd_T32 kids (i : Int)) = 0 := by
      rw [rdT2 _ i (by omega)]
      exact hk _ (List.getElem_mem _)
    simp only [spec_l7Map.l0]
    rw [if_pos (by omega), if_pos (by omega), if_pos (by omega), sSet _ _ _ (by omega) (by omega), Option.bind_some, wsucc (by omega)]
    rfl
def kindText (n : Int) : ByteArray := if n = 1 then ⟨#[115, 104, 97, 114, 101]⟩ else if n = 2 then ⟨#[109, 101, 97, 110]⟩ else if n = 3 then ⟨#[119, 104, 111, 108, 101]⟩ else ⟨#[110, 111, 110, 101]⟩
theorem impl_kindText (n : Int) : impl_kindWord.f n = some (kindText n) := by
  unfold impl_kindWord.f kindText
  by_cases h1 : n = 1
  · rw [if_pos h1, if_pos h1]
  · by_cases h2 : n = 2
    · rw [if_neg h1, if_neg h1, if_pos h2, if_pos h2]
    · by_cases h3 : n = 3
      · rw [if_neg h1, if_neg h1, if_neg h2, if_neg h2, if_pos h3, if_pos h3]
      · rw [if_neg h1, if_neg h1, if_neg h2, if_neg h2, if_neg h3, if_neg h3]
theorem spec_kindText (n : Int) : spec_l7Kind.f n = some (kindText n) := by
  unfold spec_l7Kind.f kindText spec_l1In.f
  by_cases h : 1 ≤ n ∧ n ≤ 3
  · obtain ⟨h1, h2⟩ := h
    rcases (by omega : n = 1 ∨ n = 2 ∨ n = 3) with rfl | rfl | rfl <;> simp [rdOf]
  · have e1 : n ≠ 1 := by omega
    have e2 : n ≠ 2 := by omega
    have e3 : n ≠ 3 := by omega
    by_cases h1 : 1 ≤ n
    · have h2 : ¬ n ≤ 3 := fun e => h ⟨h1, e⟩
      simp [e1, e2, e3, h1, h2]
    · simp [e1, e2, e3, h1]
def intN (n : Int) : Nd := ⟨2, n, ⟨#[]⟩, [], []⟩
def textN (s : ByteArray) : Nd := ⟨3, 0, s, [], []⟩
theorem cnt_leaves (l : List Nd) (h : ∀ y ∈ l, y.f3 = [] ∧ y.f4 = []) : ∀ y ∈ l, cntTop y = 0 := fun y hy => by
  obtain ⟨h1, h2⟩ := h y hy
  simp [cntTop, h1, h2]
noncomputable def paceV (a0 a1 a2 a3 : Int) : Nd := mapV [(⟨#[100, 111, 119, 110]⟩ : ByteArray), (⟨#[117, 112]⟩ : ByteArray), (⟨#[100, 111, 119, 110, 115, 112, 97, 110]⟩ : ByteArray), (⟨#[117, 112, 115, 112, 97, 110]⟩ : ByteArray)] [intN a1, intN a0, textN (spanText a3), textN (spanText a2)] 4
noncomputable def metricV (m : S61) : Nd := mapV [(⟨#[110, 97, 109, 101]⟩ : ByteArray), (⟨#[107, 105, 110, 100]⟩ : ByteArray), (⟨#[103, 111, 97, 108]⟩ : ByteArray)] [textN m.f0, textN (kindText m.f1), textN (amountText m.f2)] 3
noncomputable def headV (n t : ByteArray) (lo hi : Int) (kd : ByteArray) : Nd := mapV [(⟨#[107, 105, 110, 100]⟩ : ByteArray), (⟨#[110, 97, 109, 101]⟩ : ByteArray), (⟨#[116, 97, 114, 103, 101, 116]⟩ : ByteArray), (⟨#[108, 111, 119]⟩ : ByteArray), (⟨#[104, 105, 103, 104]⟩ : ByteArray)] [textN kd, textN n, textN t, intN lo, intN hi] 5
theorem cnt_paceV (a0 a1 a2 a3 : Int) : cntTop (paceV a0 a1 a2 a3) ≤ 16 := cnt_mapV _ _ (cnt_leaves _ (by simp [intN, textN])) 4 (by simp)
theorem cnt_metricV (m : S61) : cntTop (metricV m) ≤ 12 := cnt_mapV _ _ (cnt_leaves _ (by simp [intN, textN])) 3 (by simp)
theorem cnt_headV (n t : ByteArray) (lo hi : Int) (kd : ByteArray) : cntTop (headV n t lo hi kd) ≤ 20 := cnt_mapV _ _ (cnt_leaves _ (by simp [intN, textN])) 5 (by simp)
theorem impl_pace_ev (a0 a1 a2 a3 : Int) : Ev (fun k => impl_PaceTree.f k a0 a1 a2 a3) (tup (paceV a0 a1 a2 a3)) := by
  unfold impl_PaceTree.f
  simp only [impl_IntOf.f, impl_TextOf.f, Option.bind_some]
  refine Ev.bind (Ev.past (fun k hk => impl_spanText a3 k hk)) (Ev.bind (Ev.past (fun k hk => impl_spanText a2 k hk)) (Ev.bind (impl_map_ev _ [intN a1, intN a0, textN (spanText a3), textN (spanText a2)] rfl (by simp) (cnt_leaves _ (by simp [intN, textN]))) (Ev.now _)))
theorem spec_pace_ev (a0 a1 a2 a3 : Int) : Ev (fun k => spec_PaceTree.f k a0 a1 a2 a3) (tup (paceV a0 a1 a2 a3)) := by
  unfold spec_PaceTree.f
  simp only [spec_IntOf.f, spec_TextOf.f, Option.bind_some]
  refine Ev.bind (Ev.past (fun k hk => spec_spanText a3 k hk)) (Ev.bind (Ev.past (fun k hk => spec_spanText a2 k hk)) (Ev.bind (spec_map_ev _ [intN a1, intN a0, textN (spanText a3), textN (spanText a2)] rfl (by simp) (cnt_leaves _ (by simp [intN, textN]))) (Ev.now _)))
theorem impl_metric_ev (m : S61) : Ev (fun k => impl_MetricTree.f k m.f0 m.f1 m.f2) (tup (metricV m)) := by
  unfold impl_MetricTree.f
  simp only [impl_TextOf.f, Option.bind_some, impl_kindText]
  refine Ev.bind (Ev.past (fun k hk => impl_amountText m.f2 k hk)) (Ev.bind (impl_map_ev _ [textN m.f0, textN (kindText m.f1), textN (amountText m.f2)] rfl (by simp) (cnt_leaves _ (by simp [intN, textN]))) (Ev.now _))
theorem spec_metric_ev (m : S61) : Ev (fun k => spec_MetricTree.f k m.f0 m.f1 m.f2) (tup (metricV m)) := by
  unfold spec_MetricTree.f
  simp only [spec_TextOf.f, Option.bind_some, spec_kindText]
  refine Ev.bind (Ev.past (fun k hk => spec_amountText m.f2 k hk)) (Ev.bind (spec_map_ev _ [textN m.f0, textN (kindText m.f1), textN (amountText m.f2)] rfl (by simp) (cnt_leaves _ (by simp [intN, textN]))) (Ev.now _))
theorem impl_head_ev (n t : ByteArray) (lo hi : Int) (ms : List S61) (p0 p1 p2 p3 : Int) (ns : List S124) (kd : ByteArray) : Ev (fun k => impl_commonTree.f k n t lo hi ms p0 p1 p2 p3 ns kd) (tup (headV n t lo hi kd)) := by
  unfold impl_commonTree.f
  simp only [impl_IntOf.f, impl_TextOf.f, Option.bind_some]
  exact Ev.bind (impl_map_ev _ [textN kd, textN n, textN t, intN lo, intN hi] rfl (by simp) (cnt_leaves _ (by simp [intN, textN]))) (Ev.now _)
theorem spec_head_ev (n t : ByteArray) (lo hi : Int) (ms : List S61) (p0 p1 p2 p3 : Int) (ns : List S124) (kd : ByteArray) : Ev (fun k => spec_l7Head.f k n t lo hi ms p0 p1 p2 p3 ns kd) (tup (headV n t lo hi kd)) := by
  unfold spec_l7Head.f
  simp only [spec_IntOf.f, spec_TextOf.f, Option.bind_some]
  exact Ev.bind (spec_map_ev _ [textN kd, textN n, textN t, intN lo, intN hi] rfl (by simp) (cnt_leaves _ (by simp [intN, textN]))) (Ev.now _)
def listN (l : List Nd) : Nd := ⟨4, 0, ⟨#[]⟩, [], l⟩
noncomputable def metricsV (ms : List S61) : Nd := listN (ms.map metricV)
theorem cnt_metricsV (ms : List S61) : cntTop (metricsV ms) ≤ 15 * ms.length := by
  show 0 + _ ≤ _
  rw [Nat.zero_add]
  show ((ms.map metricV).map cntK).sum ≤ _
  induction ms with
  | nil => simp
  | cons m ms ih =>
    have h := cnt_metricV m
    have e : cntK (metricV m) = 3 + cntTop (metricV m) := by rw [cntK_eq]; unfold cntTop; omega
    simp only [List.map_cons, List.sum_cons, List.length_cons]
    omega
theorem take_succ_map {α : Type} (f : α → Nd) (l : List α) (i : Nat) (h : i < l.length) : (l.take (i + 1)).map f = (l.take i).map f ++ [f l[i]] := by
  rw [List.take_succ_eq_append_getElem h, List.map_append]; rfl
theorem rdM (xs : List S61) (i : Nat) (h : i < xs.length) : rd_T61 xs (i : Int) = xs[i] := by
  show xs.getD i _ = _
  rw [List.getD_eq_getElem?_getD, List.getElem?_eq_getElem h]; rfl
theorem impl_metrics_ev (ms : List S61) (hl : ms.length ≤ 1048576) : Ev (fun k => impl_metricsTree.f k ms) (tup (metricsV ms)) := by
  unfold impl_metricsTree.f
  refine ev_loop (l0 := fun k (s : List Nd) i => impl_metricsTree.l0 k ms (ms.length : Int) i 4 0 ⟨#[]⟩ s) (n := ms.length) (fun i => (ms.take i).map metricV) ?_ ?_
  · refine Ev.lift (f := fun _ => some (tup (metricsV ms))) (fun k => ?_) (Ev.now _)
    simp only [impl_metricsTree.l0]
    rw [if_neg (by omega), List.take_length]
    rfl
  · intro i hi h
    refine Ev.lift (f := fun k => (impl_MetricTree.f k (ms[i]).f0 (ms[i]).f1 (ms[i]).f2).bind fun b => impl_metricsTree.l0 k ms (ms.length : Int) ((i + 1 : Nat) : Int) 4 0 ⟨#[]⟩ ((ms.take i).map metricV ++ [⟨b.1, b.2.1, b.2.2.1, b.2.2.2.1, b.2.2.2.2⟩])) (fun k => ?_) (Ev.bind (impl_metric_ev ms[i]) ?_)
    · simp only [impl_metricsTree.l0]
      rw [if_pos (by omega), if_pos (by omega), if_pos (by omega), rdM ms i hi, wsucc (by omega)]
      simp only [List.length_map, List.length_take]
      congr 1
      funext b
      rw [if_pos (by omega)]
    · show Ev (fun k => impl_metricsTree.l0 k ms (ms.length : Int) ((i + 1 : Nat) : Int) 4 0 ⟨#[]⟩ ((ms.take i).map metricV ++ [⟨(metricV ms[i]).f0, (metricV ms[i]).f1, (metricV ms[i]).f2, (metricV ms[i]).f3, (metricV ms[i]).f4⟩])) _
      rw [eta_, ← take_succ_map metricV ms i hi]
      exact h
theorem spec_metrics_ev (ms : List S61) (hl : ms.length ≤ 1048576) : Ev (fun k => spec_l7Metrics.f k ms) (tup (metricsV ms)) := by
  unfold spec_l7Metrics.f
  refine ev_loop (l0 := fun k (s : List Nd) i => spec_l7Metrics.l0 k ms i 4 0 ⟨#[]⟩ s) (n := ms.length) (fun i => (ms.take i).map metricV) ?_ ?_
  · refine Ev.lift (f := fun _ => some (tup (metricsV ms))) (fun k => ?_) (Ev.now _)
    simp only [spec_l7Metrics.l0]
    rw [if_neg (by omega), List.take_length]
    rfl
  · intro i hi h
    refine Ev.lift (f := fun k => (spec_MetricTree.f k (ms[i]).f0 (ms[i]).f1 (ms[i]).f2).bind fun b => spec_l7Metrics.l0 k ms ((i + 1 : Nat) : Int) 4 0 ⟨#[]⟩ ((ms.take i).map metricV ++ [⟨b.1, b.2.1, b.2.2.1, b.2.2.2.1, b.2.2.2.2⟩])) (fun k => ?_) (Ev.bind (spec_metric_ev ms[i]) ?_)
    · simp only [spec_l7Metrics.l0]
      rw [if_pos (by omega), if_pos (by omega), rdM ms i hi, wsucc (by omega)]
      simp only [List.length_map, List.length_take]
      congr 1
      funext b
      rw [if_pos (by omega)]
    · show Ev (fun k => spec_l7Metrics.l0 k ms ((i + 1 : Nat) : Int) 4 0 ⟨#[]⟩ ((ms.take i).map metricV ++ [⟨(metricV ms[i]).f0, (metricV ms[i]).f1, (metricV ms[i]).f2, (metricV ms[i]).f3, (metricV ms[i]).f4⟩])) _
      rw [eta_, ← take_succ_map metricV ms i hi]
      exact h
noncomputable def notesV (ns : List S124) : Nat → Nd
  | 0 => ⟨5, 0, ⟨#[]⟩, [], []⟩
  | i + 1 => setV (notesV ns i) (rd_T124 ns (i : Int)).f0 (textN (rd_T124 ns (i : Int)).f1)
theorem cnt_textN (s : ByteArray) : cntTop (textN s) = 0 := by simp [textN, cntTop]
theorem cnt_notesV (ns : List S124) : ∀ i, cntTop (notesV ns i) ≤ 4 * i := by
  intro i
  induction i with
  | zero => simp [notesV, cntTop]
  | succ i ih =>
    have h2 := cnt_setV (notesV ns i) (rd_T124 ns (i : Int)).f0 (textN (rd_T124 ns (i : Int)).f1)
    have h3 := cnt_textN (rd_T124 ns (i : Int)).f1
    show cntTop (setV _ _ _) ≤ _
    omega
theorem impl_notes_ev (ns : List S124) (hn : ns.length ≤ 1048576) : Ev (fun k => impl_notesTree.f k ns) (tup (notesV ns ns.length)) := by
  unfold impl_notesTree.f
  refine ev_loop (l0 := fun k (s : Nd) i => impl_notesTree.l0 k ns (ns.length : Int) i s.f0 s.f1 s.f2 s.f3 s.f4) (n := ns.length) (notesV ns) ?_ ?_
  · exact Ev.lift (f := fun _ => some (tup (notesV ns ns.length))) (fun k => by simp only [impl_notesTree.l0]; rw [if_neg (by omega)]; rfl) (Ev.now _)
  · intro i hi h
    refine Ev.lift (f := fun k => impl_notesTree.l0 k ns (ns.length : Int) ((i + 1 : Nat) : Int) (notesV ns (i + 1)).f0 (notesV ns (i + 1)).f1 (notesV ns (i + 1)).f2 (notesV ns (i + 1)).f3 (notesV ns (i + 1)).f4) (fun k => ?_) h
    have h1 := cnt_notesV ns i
    have h3 := cnt_textN (rd_T124 ns (i : Int)).f1
    have e := iSet (notesV ns i) (textN (rd_T124 ns (i : Int)).f1) (rd_T124 ns (i : Int)).f0 (by omega) (by omega)
    simp only [impl_notesTree.l0, impl_TextOf.f, Option.bind_some]
    rw [if_pos (by omega), if_pos (by omega), if_pos (by omega)]
    refine (congrArg (fun z => Option.bind z _) e).trans ?_
    rw [Option.bind_some, wsucc (by omega)]
    rfl
theorem spec_notes_ev (ns : List S124) (hn : ns.length ≤ 1048576) : Ev (fun k => spec_l7Notes.f k ns) (tup (notesV ns ns.length)) := by
  unfold spec_l7Notes.f
  refine ev_loop (l0 := fun k (s : Nd) i => spec_l7Notes.l0 k ns i s.f0 s.f1 s.f2 s.f3 s.f4) (n := ns.length) (notesV ns) ?_ ?_
  · exact Ev.lift (f := fun _ => some (tup (notesV ns ns.length))) (fun k => by simp only [spec_l7Notes.l0]; rw [if_neg (by omega)]; rfl) (Ev.now _)
  · intro i hi h
    refine Ev.lift (f := fun k => spec_l7Notes.l0 k ns ((i + 1 : Nat) : Int) (notesV ns (i + 1)).f0 (notesV ns (i + 1)).f1 (notesV ns (i + 1)).f2 (notesV ns (i + 1)).f3 (notesV ns (i + 1)).f4) (fun k => ?_) h
    have h1 := cnt_notesV ns i
    have h3 := cnt_textN (rd_T124 ns (i : Int)).f1
    have e := sSet (notesV ns i) (textN (rd_T124 ns (i : Int)).f1) (rd_T124 ns (i : Int)).f0 (by omega) (by omega)
    simp only [spec_l7Notes.l0, spec_TextOf.f, Option.bind_some]
    rw [if_pos (by omega), if_pos (by omega)]
    refine (congrArg (fun z => Option.bind z _) e).trans ?_
    rw [Option.bind_some, wsucc (by omega)]
    rfl
noncomputable def full1 (n t : ByteArray) (lo hi : Int) (ms : List S61) : Nd := setV (headV n t lo hi ⟨#[102, 117, 108, 108]⟩) ⟨#[109, 101, 116, 114, 105, 99, 115]⟩ (metricsV ms)
noncomputable def full2 (n t : ByteArray) (lo hi : Int) (ms : List S61) (p0 p1 p2 p3 : Int) : Nd := setV (full1 n t lo hi ms) ⟨#[112, 97, 99, 101]⟩ (paceV p0 p1 p2 p3)
noncomputable def full3 (n t : ByteArray) (lo hi : Int) (ms : List S61) (p0 p1 p2 p3 : Int) (ns : List S124) : Nd := setV (full2 n t lo hi ms p0 p1 p2 p3) ⟨#[110, 111, 116, 101, 115]⟩ (notesV ns ns.length)
noncomputable def fullV (n t : ByteArray) (lo hi : Int) (ms : List S61) (p0 p1 p2 p3 : Int) (ns : List S124) : Nd := if orderOk n t lo hi ms p0 p1 p2 p3 ns = true then full3 n t lo hi ms p0 p1 p2 p3 ns else node0
theorem cnt_full (n t : ByteArray) (lo hi : Int) (ms : List S61) (p0 p1 p2 p3 : Int) (ns : List S124) (h3 : ms.length ≤ 1048576) (h5 : ns.length ≤ 1048576) : cntTop (full1 n t lo hi ms) ≤ 15728664 ∧ cntTop (full2 n t lo hi ms p0 p1 p2 p3) ≤ 15728684 ∧ cntTop (full3 n t lo hi ms p0 p1 p2 p3 ns) ≤ 19923000 := by
  have a1 := cnt_headV n t lo hi ⟨#[102, 117, 108, 108]⟩
  have a2 := cnt_metricsV ms
  have a3 := cnt_setV (headV n t lo hi ⟨#[102, 117, 108, 108]⟩) ⟨#[109, 101, 116, 114, 105, 99, 115]⟩ (metricsV ms)
  have a4 := cnt_paceV p0 p1 p2 p3
  have a5 := cnt_setV (full1 n t lo hi ms) ⟨#[112, 97, 99, 101]⟩ (paceV p0 p1 p2 p3)
  have a6 := cnt_notesV ns ns.length
  have a7 := cnt_setV (full2 n t lo hi ms p0 p1 p2 p3) ⟨#[110, 111, 116, 101, 115]⟩ (notesV ns ns.length)
  have b1 : cntTop (full1 n t lo hi ms) ≤ 15728664 := by unfold full1; omega
  have b2 : cntTop (full2 n t lo hi ms p0 p1 p2 p3) ≤ 15728684 := by unfold full2; omega
  exact ⟨b1, b2, by unfold full3; omega⟩
theorem impl_full_ev (n t : ByteArray) (lo hi : Int) (ms : List S61) (p0 p1 p2 p3 : Int) (ns : List S124) (h1 : n.size ≤ 1048576) (h2 : t.size ≤ 1048576) (h3 : ms.length ≤ 1048576) (h4 : ∀ m ∈ ms, m.f0.size ≤ 1048576) (h5 : ns.length ≤ 1048576) (h6 : ∀ m ∈ ns, m.f0.size ≤ 1048576 ∧ m.f1.size ≤ 1048576) :
    Ev (fun k => impl_FullTree.f k n t lo hi ms p0 p1 p2 p3 ns) (tup (fullV n t lo hi ms p0 p1 p2 p3 ns)) := by
  unfold impl_FullTree.f fullV
  refine Ev.bind (Ev.past (fun k hk => impl_orderOk n t lo hi ms p0 p1 p2 p3 ns h1 h2 h3 h4 h5 h6 k hk)) ?_
  by_cases ho : orderOk n t lo hi ms p0 p1 p2 p3 ns = true
  · simp only [if_pos ho]
    obtain ⟨c1, c2, c3⟩ := cnt_full n t lo hi ms p0 p1 p2 p3 ns h3 h5
    have a1 := cnt_headV n t lo hi ⟨#[102, 117, 108, 108]⟩
    have a2 := cnt_metricsV ms
    have a4 := cnt_paceV p0 p1 p2 p3
    have a6 := cnt_notesV ns ns.length
    have e1 := iSet (headV n t lo hi ⟨#[102, 117, 108, 108]⟩) (metricsV ms) ⟨#[109, 101, 116, 114, 105, 99, 115]⟩ (by omega) (by omega)
    have e2 := iSet (full1 n t lo hi ms) (paceV p0 p1 p2 p3) ⟨#[112, 97, 99, 101]⟩ (by omega) (by omega)
    have e3 := iSet (full2 n t lo hi ms p0 p1 p2 p3) (notesV ns ns.length) ⟨#[110, 111, 116, 101, 115]⟩ (by omega) (by omega)
    exact Ev.bind (impl_head_ev n t lo hi ms p0 p1 p2 p3 ns _) (Ev.bind (impl_metrics_ev ms h3) (Ev.bind (Ev.eq (fun _ => e1) rfl) (Ev.bind (impl_pace_ev p0 p1 p2 p3) (Ev.bind (Ev.eq (fun _ => e2) rfl) (Ev.bind (impl_notes_ev ns h5) (Ev.bind (Ev.eq (fun _ => e3) rfl) (Ev.now _)))))))
  · simp only [if_neg ho]
    exact Ev.now _
theorem spec_full_ev (n t : ByteArray) (lo hi : Int) (ms : List S61) (p0 p1 p2 p3 : Int) (ns : List S124) (h1 : n.size ≤ 1048576) (h2 : t.size ≤ 1048576) (h3 : ms.length ≤ 1048576) (h4 : ∀ m ∈ ms, m.f0.size ≤ 1048576) (h5 : ns.length ≤ 1048576) (h6 : ∀ m ∈ ns, m.f0.size ≤ 1048576 ∧ m.f1.size ≤ 1048576) :
    Ev (fun k => spec_FullTree.f k n t lo hi ms p0 p1 p2 p3 ns) (tup (fullV n t lo hi ms p0 p1 p2 p3 ns)) := by
  unfold spec_FullTree.f fullV
  refine Ev.bind (Ev.past (fun k hk => spec_orderOk n t lo hi ms p0 p1 p2 p3 ns h1 h2 h3 h4 h5 h6 k hk)) ?_
  by_cases ho : orderOk n t lo hi ms p0 p1 p2 p3 ns = true
  · simp only [if_pos ho]
    obtain ⟨c1, c2, c3⟩ := cnt_full n t lo hi ms p0 p1 p2 p3 ns h3 h5
    have a1 := cnt_headV n t lo hi ⟨#[102, 117, 108, 108]⟩
    have a2 := cnt_metricsV ms
    have a4 := cnt_paceV p0 p1 p2 p3
    have a6 := cnt_notesV ns ns.length
    have e1 := sSet (headV n t lo hi ⟨#[102, 117, 108, 108]⟩) (metricsV ms) ⟨#[109, 101, 116, 114, 105, 99, 115]⟩ (by omega) (by omega)
    have e2 := sSet (full1 n t lo hi ms) (paceV p0 p1 p2 p3) ⟨#[112, 97, 99, 101]⟩ (by omega) (by omega)
    have e3 := sSet (full2 n t lo hi ms p0 p1 p2 p3) (notesV ns ns.length) ⟨#[110, 111, 116, 101, 115]⟩ (by omega) (by omega)
    exact Ev.bind (spec_head_ev n t lo hi ms p0 p1 p2 p3 ns _) (Ev.bind (spec_metrics_ev ms h3) (Ev.bind (Ev.eq (fun _ => e1) rfl) (Ev.bind (spec_pace_ev p0 p1 p2 p3) (Ev.bind (Ev.eq (fun _ => e2) rfl) (Ev.bind (spec_notes_ev ns h5) (Ev.bind (Ev.eq (fun _ => e3) rfl) (Ev.now _)))))))
  · simp only [if_neg ho]
    exact Ev.now _
end Go.Proofs.YtdlhidjphaaklaaGreat.H
end
