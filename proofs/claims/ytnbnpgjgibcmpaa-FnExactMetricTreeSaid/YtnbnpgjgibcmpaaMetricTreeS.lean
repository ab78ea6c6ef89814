/- spec.MetricTree: what it makes is its own. (Printed by wip/mklit.py.) -/
import Derived.Test.YtnbnpgjgibcmpaaAid
import Derived.Test.YtnbnpgjgibcmpaaAmText
import Derived.Test.YtnbnpgjgibcmpaaCopy
import Derived.Test.YtnbnpgjgibcmpaaDelete
import Derived.Test.YtnbnpgjgibcmpaaGet
import Derived.Test.YtnbnpgjgibcmpaaInsert
import Derived.Test.YtnbnpgjgibcmpaaLaw
import Derived.Test.YtnbnpgjgibcmpaaListOf
import Derived.Test.YtnbnpgjgibcmpaaLists
import Derived.Test.YtnbnpgjgibcmpaaLits
import Derived.Test.YtnbnpgjgibcmpaaLitsM
import Derived.Test.YtnbnpgjgibcmpaaMake
import Derived.Test.YtnbnpgjgibcmpaaMapOf
import Derived.Test.YtnbnpgjgibcmpaaMapOfS
import Derived.Test.YtnbnpgjgibcmpaaMark
import Derived.Test.YtnbnpgjgibcmpaaOwn
import Derived.Test.YtnbnpgjgibcmpaaSet
import Derived.Test.YtnbnpgjgibcmpaaSetLaw
import Derived.Test.YtnbnpgjgibcmpaaSetS
import Derived.Test.YtnbnpgjgibcmpaaSetW
import Derived.Test.YtnbnpgjgibcmpaaUnset
import Derived.Test.YtnbnpgjgibcmpaaUnsetW
namespace Go.Proofs.Ytnbnpgjgibcmpaa.H
open Go.RowKit Go.Proofs.Ytnbnpgjgibcmpaa.P Go.Proofs.YtnbnpgjgibcmpaaW.PrintWords Go.Proofs.YtnbnpgjgibcmpaaW.PrintLast Go.Proofs.Ytnbnpgjgibcmpaa.M
set_option linter.unusedVariables false
set_option linter.unusedSimpArgs false
set_option maxHeartbeats 16000000 in
set_option maxRecDepth 100000 in
theorem metricS_calls (a0 : ByteArray) (a1 a2 : Int) (w : World) : Calls Try.prog 55 #[.agg #[.string a0, .int .i64 a1, .int .i64 a2]] w fun e w' => Made w (metricV a0 a1 a2) e w' := by
  have hu := Try.underlying25
  have hu2 := Try.underlying69
  unfold Made metricV
  go_enter Try.func55, Try.ntmps55
  go_wp2_with (first
    | ((with_reducible refine gate_dst (N := 1) rfl ?_); refine box_event rfl (N := 1) rfl (cs := #[.string a0, .int .i64 a1, .int .i64 a2]) (t := 69) (by first | (go_simp; done) | (go_simp; rfl)) ?_; intro gb hg wa bk hb; have BKa := Lib.hid bk; have HBa := Lib.hid hb; clear hg bk hb)
    | ((with_reducible refine gate_dst (N := 2) rfl ?_); refine box_event rfl (N := 2) rfl (cs := #[.int .i64 0, .int .i64 0, .string ⟨#[]⟩, .slice none 0 0, .slice none 0 0]) (t := 25) (by first | (go_simp; done) | (go_simp; rfl)) ?_; intro gr hg wb bk hb; have BKr := Lib.hid bk; have GEr := Lib.hid (Nat.le_trans HBa.out.size (Nat.le_of_eq hg.symm)); have HBb := Lib.hid (HBa.out.trans (hb.mono HBa.out.size)); have BKb := Lib.hid (blk_below BKa.out hb); clear hg bk hb BKa HBa))
  have SO : Hid (∀ W : World, Below wb.heap.size wb W → W.cell? ⟨gb, 0, none⟩ = some (.string a0) ∧ W.cell? ⟨gb, 1, none⟩ = some (.int .i64 a1) ∧ W.cell? ⟨gb, 2, none⟩ = some (.int .i64 a2)) := fun W hW => ⟨(blk_cell (blk_below BKb.out hW) 0).trans rfl, (blk_cell (blk_below BKb.out hW) 1).trans rfl, (blk_cell (blk_below BKb.out hW) 2).trans rfl⟩
  refine start_ (n := 15) (S := fun W => W.cell? ⟨gb, 0, none⟩ = some (.string a0) ∧ W.cell? ⟨gb, 1, none⟩ = some (.int .i64 a1) ∧ W.cell? ⟨gb, 2, none⟩ = some (.int .i64 a2)) (ds := [14]) #[false, false, false, false, false, false, false, false, false, false, false, false, false, false, false] (by kernel_rfl) rfl rfl (SO.out _ (below_drew (Below.refl _ _))) (fun hHeld => ?_)
  have HW := Lib.hid (below_drew (Below.refl wb.heap.size wb))
  refine pure_ (i := 1) (N := some 4) (v := _) (a' := _) (bs_ 15 2) rfl rfl (by kernel_rfl) (fun _ _ _ h => h) (Or.inl ⟨by rfl, by intro w'; go_simp; first | with_reducible rfl | rfl⟩) (by simp only [Act.put, List.setIfInBounds_toArray, List.set_cons_zero, List.set_cons_succ]; rfl) ?_
  refine take_ (i := 2) (N := some 5) (v := _) (a' := _) (bs_ 15 6) rfl rfl (by kernel_rfl) (fun _ _ _ h => h) (Or.inl ⟨by rfl, by rintro w' ⟨s0, s1, s2⟩; go_simp; first | with_reducible rfl | rfl⟩) hHeld (by simp only [Act.put, List.setIfInBounds_toArray, List.set_cons_zero, List.set_cons_succ]; rfl) ?_
  refine pure_ (i := 4) (N := some 7) (v := _) (a' := _) (bs_ 15 22) rfl rfl (by kernel_rfl) (fun _ _ _ h => h) (Or.inl ⟨by rfl, by intro w'; go_simp; first | with_reducible rfl | rfl⟩) (by simp only [Act.put, List.setIfInBounds_toArray, List.set_cons_zero, List.set_cons_succ]; rfl) ?_
  refine take_ (i := 5) (N := some 8) (v := _) (a' := _) (bs_ 15 54) rfl rfl (by kernel_rfl) (fun _ _ _ h => h) (Or.inl ⟨by rfl, by rintro w' ⟨s0, s1, s2⟩; go_simp; first | with_reducible rfl | rfl⟩) hHeld (by simp only [Act.put, List.setIfInBounds_toArray, List.set_cons_zero, List.set_cons_succ]; rfl) ?_
  refine pure_ (i := 8) (N := some 11) (v := _) (a' := _) (bs_ 15 310) rfl rfl (by kernel_rfl) (fun _ _ _ h => h) (Or.inl ⟨by rfl, by intro w'; go_simp; first | with_reducible rfl | rfl⟩) (by simp only [Act.put, List.setIfInBounds_toArray, List.set_cons_zero, List.set_cons_succ]; rfl) ?_
  refine take_ (i := 9) (N := some 12) (v := _) (a' := _) (bs_ 15 822) rfl rfl (by kernel_rfl) (fun _ _ _ h => h) (Or.inl ⟨by rfl, by rintro w' ⟨s0, s1, s2⟩; go_simp; first | with_reducible rfl | rfl⟩) hHeld (by simp only [Act.put, List.setIfInBounds_toArray, List.set_cons_zero, List.set_cons_succ]; rfl) ?_
  refine qtwo_ (i := 0) (j := 3) (Ni := some 3) (Nj := some 6) (cs := #[.string (⟨#[110, 97, 109, 101]⟩ : ByteArray), .string (⟨#[107, 105, 110, 100]⟩ : ByteArray), .string (⟨#[103, 111, 97, 108]⟩ : ByteArray)]) (t := 9) 3 3 (bs_ 15 823) (bs_ 15 830) rfl rfl rfl rfl (by kernel_rfl) (by decide) (by decide) (by rfl) (by first | (go_simp; done) | (go_simp; rfl)) Try.func24 (by kernel_rfl) rfl #[.string a0] (.agg #[.int .i64 3, .int .i64 0, .string a0, .slice none 0 0, .slice none 0 0]) (by rfl) rfl (by (try simp only [List.map_toArray, List.map_cons, List.map_nil]); first | done | rfl) (by simp only [Act.put, List.setIfInBounds_toArray, List.set_cons_zero, List.set_cons_succ]; rfl) (textS_calls a0 _) (fun w' hb => SO.out _ (HW.out.trans (hb.mono HW.out.size))) (fun gk wk bk hb hHeld => ?_) (fun wk hb hHeld => ?_)
  focus
    have HK := Lib.hid (lits_C [(⟨#[110, 97, 109, 101]⟩ : ByteArray), (⟨#[107, 105, 110, 100]⟩ : ByteArray), (⟨#[103, 111, 97, 108]⟩ : ByteArray)] bk (by decide)); replace HW := Lib.hid (HW.out.trans (hb.mono HW.out.size)); clear bk hb
    refine norm_ (a' := ?_) ?_ ?_; rotate_left; (show Act.put _ (some 3) _ = _; simp only [Act.put, List.setIfInBounds_toArray, List.set_cons_zero, List.set_cons_succ]; rfl)
    refine qcall_ (i := 3) (N := some 6) (bs_ 15 831) rfl rfl (by kernel_rfl) (by decide) Try.func24 (by kernel_rfl) rfl #[.string a0] (.agg #[.int .i64 3, .int .i64 0, .string a0, .slice none 0 0, .slice none 0 0]) (by rfl) rfl (by (try simp only [List.map_toArray, List.map_cons, List.map_nil]); first | done | rfl) (by simp only [Act.put, List.setIfInBounds_toArray, List.set_cons_zero, List.set_cons_succ]; rfl) (textS_calls a0 _) (fun w' hb => SO.out _ (HW.out.trans (hb.mono HW.out.size))) (fun wk hb hHeld => ?_)
    replace HK := Lib.hid (Kd.C_below HK.out hb); replace HW := Lib.hid (HW.out.trans (hb.mono HW.out.size)); clear hb
    refine qcall_ (i := 6) (N := some 9) (bs_ 15 895) rfl rfl (by kernel_rfl) (by decide) Try.func107 (by kernel_rfl) rfl #[.int .i64 a1] (.string (kindText a1)) (by rfl) rfl (by (try simp only [List.map_toArray, List.map_cons, List.map_nil]); first | done | rfl) (by simp only [Act.put, List.setIfInBounds_toArray, List.set_cons_zero, List.set_cons_succ]; rfl) (kindS_calls a1 _) (fun w' hb => SO.out _ (HW.out.trans (hb.mono HW.out.size))) (fun wk hb hHeld => ?_)
    replace HK := Lib.hid (Kd.C_below HK.out hb); replace HW := Lib.hid (HW.out.trans (hb.mono HW.out.size)); clear hb
    refine qcall_ (i := 7) (N := some 10) (bs_ 15 1023) rfl rfl (by kernel_rfl) (by decide) Try.func24 (by kernel_rfl) rfl #[.string (kindText a1)] (.agg #[.int .i64 3, .int .i64 0, .string (kindText a1), .slice none 0 0, .slice none 0 0]) (by rfl) rfl (by (try simp only [List.map_toArray, List.map_cons, List.map_nil]); first | done | rfl) (by simp only [Act.put, List.setIfInBounds_toArray, List.set_cons_zero, List.set_cons_succ]; rfl) (textS_calls (kindText a1) _) (fun w' hb => SO.out _ (HW.out.trans (hb.mono HW.out.size))) (fun wk hb hHeld => ?_)
    replace HK := Lib.hid (Kd.C_below HK.out hb); replace HW := Lib.hid (HW.out.trans (hb.mono HW.out.size)); clear hb
    refine qcall_ (i := 10) (N := some 13) (bs_ 15 2047) rfl rfl (by kernel_rfl) (by decide) Try.func108 (by kernel_rfl) rfl #[.int .i64 a2] (.string (amountText a2)) (by rfl) rfl (by (try simp only [List.map_toArray, List.map_cons, List.map_nil]); first | done | rfl) (by simp only [Act.put, List.setIfInBounds_toArray, List.set_cons_zero, List.set_cons_succ]; rfl) (amountS_calls a2 _) (fun w' hb => SO.out _ (HW.out.trans (hb.mono HW.out.size))) (fun wk hb hHeld => ?_)
    replace HK := Lib.hid (Kd.C_below HK.out hb); replace HW := Lib.hid (HW.out.trans (hb.mono HW.out.size)); clear hb
    refine qcall_ (i := 11) (N := some 14) (bs_ 15 4095) rfl rfl (by kernel_rfl) (by decide) Try.func24 (by kernel_rfl) rfl #[.string (amountText a2)] (.agg #[.int .i64 3, .int .i64 0, .string (amountText a2), .slice none 0 0, .slice none 0 0]) (by rfl) rfl (by (try simp only [List.map_toArray, List.map_cons, List.map_nil]); first | done | rfl) (by simp only [Act.put, List.setIfInBounds_toArray, List.set_cons_zero, List.set_cons_succ]; rfl) (textS_calls (amountText a2) _) (fun w' hb => SO.out _ (HW.out.trans (hb.mono HW.out.size))) (fun wk hb hHeld => ?_)
    replace HK := Lib.hid (Kd.C_below HK.out hb); replace HW := Lib.hid (HW.out.trans (hb.mono HW.out.size)); clear hb
    refine qlit_ (i := 12) (N := some 15) (cs := ([(3, 0, a0), (3, 0, kindText a1), (3, 0, amountText a2)].flatMap leafC).toArray) (t := 25) 3 3 (bs_ 15 8191) rfl rfl (by kernel_rfl) (by decide) (by rfl) (by simp only [leafC, List.flatMap_cons, List.flatMap_nil, List.cons_append, List.nil_append]; first | (go_simp; done) | (go_simp; rfl)) (fun w' hb => SO.out _ (HW.out.trans (hb.mono HW.out.size))) (fun gk2 wk2 bk hb hHeld => ?_)
    have HL := Lib.hid (leaves_C [(3, 0, a0), (3, 0, kindText a1), (3, 0, amountText a2)] bk (by simp)); replace HW := Lib.hid (HW.out.trans (hb.mono HW.out.size)); replace HK := Lib.hid (Kd.C_below HK.out hb); clear bk hb
    refine norm_ (a' := ?_) ?_ ?_; rotate_left; (show Act.put _ (some 15) _ = _; simp only [Act.put, List.setIfInBounds_toArray, List.set_cons_zero, List.set_cons_succ]; rfl)
  rotate_right
  focus
    replace HW := Lib.hid (HW.out.trans (hb.mono HW.out.size)); clear hb
    refine qtwo_ (i := 0) (j := 6) (Ni := some 3) (Nj := some 9) (cs := #[.string (⟨#[110, 97, 109, 101]⟩ : ByteArray), .string (⟨#[107, 105, 110, 100]⟩ : ByteArray), .string (⟨#[103, 111, 97, 108]⟩ : ByteArray)]) (t := 9) 3 3 (bs_ 15 831) (bs_ 15 894) rfl rfl rfl rfl (by kernel_rfl) (by decide) (by decide) (by rfl) (by first | (go_simp; done) | (go_simp; rfl)) Try.func107 (by kernel_rfl) rfl #[.int .i64 a1] (.string (kindText a1)) (by rfl) rfl (by (try simp only [List.map_toArray, List.map_cons, List.map_nil]); first | done | rfl) (by simp only [Act.put, List.setIfInBounds_toArray, List.set_cons_zero, List.set_cons_succ]; rfl) (kindS_calls a1 _) (fun w' hb => SO.out _ (HW.out.trans (hb.mono HW.out.size))) (fun gk wk bk hb hHeld => ?_) (fun wk hb hHeld => ?_)
    focus
      have HK := Lib.hid (lits_C [(⟨#[110, 97, 109, 101]⟩ : ByteArray), (⟨#[107, 105, 110, 100]⟩ : ByteArray), (⟨#[103, 111, 97, 108]⟩ : ByteArray)] bk (by decide)); replace HW := Lib.hid (HW.out.trans (hb.mono HW.out.size)); clear bk hb
      refine norm_ (a' := ?_) ?_ ?_; rotate_left; (show Act.put _ (some 3) _ = _; simp only [Act.put, List.setIfInBounds_toArray, List.set_cons_zero, List.set_cons_succ]; rfl)
      refine qcall_ (i := 6) (N := some 9) (bs_ 15 895) rfl rfl (by kernel_rfl) (by decide) Try.func107 (by kernel_rfl) rfl #[.int .i64 a1] (.string (kindText a1)) (by rfl) rfl (by (try simp only [List.map_toArray, List.map_cons, List.map_nil]); first | done | rfl) (by simp only [Act.put, List.setIfInBounds_toArray, List.set_cons_zero, List.set_cons_succ]; rfl) (kindS_calls a1 _) (fun w' hb => SO.out _ (HW.out.trans (hb.mono HW.out.size))) (fun wk hb hHeld => ?_)
      replace HK := Lib.hid (Kd.C_below HK.out hb); replace HW := Lib.hid (HW.out.trans (hb.mono HW.out.size)); clear hb
      refine qcall_ (i := 7) (N := some 10) (bs_ 15 1023) rfl rfl (by kernel_rfl) (by decide) Try.func24 (by kernel_rfl) rfl #[.string (kindText a1)] (.agg #[.int .i64 3, .int .i64 0, .string (kindText a1), .slice none 0 0, .slice none 0 0]) (by rfl) rfl (by (try simp only [List.map_toArray, List.map_cons, List.map_nil]); first | done | rfl) (by simp only [Act.put, List.setIfInBounds_toArray, List.set_cons_zero, List.set_cons_succ]; rfl) (textS_calls (kindText a1) _) (fun w' hb => SO.out _ (HW.out.trans (hb.mono HW.out.size))) (fun wk hb hHeld => ?_)
      replace HK := Lib.hid (Kd.C_below HK.out hb); replace HW := Lib.hid (HW.out.trans (hb.mono HW.out.size)); clear hb
      refine qcall_ (i := 10) (N := some 13) (bs_ 15 2047) rfl rfl (by kernel_rfl) (by decide) Try.func108 (by kernel_rfl) rfl #[.int .i64 a2] (.string (amountText a2)) (by rfl) rfl (by (try simp only [List.map_toArray, List.map_cons, List.map_nil]); first | done | rfl) (by simp only [Act.put, List.setIfInBounds_toArray, List.set_cons_zero, List.set_cons_succ]; rfl) (amountS_calls a2 _) (fun w' hb => SO.out _ (HW.out.trans (hb.mono HW.out.size))) (fun wk hb hHeld => ?_)
      replace HK := Lib.hid (Kd.C_below HK.out hb); replace HW := Lib.hid (HW.out.trans (hb.mono HW.out.size)); clear hb
      refine qcall_ (i := 11) (N := some 14) (bs_ 15 4095) rfl rfl (by kernel_rfl) (by decide) Try.func24 (by kernel_rfl) rfl #[.string (amountText a2)] (.agg #[.int .i64 3, .int .i64 0, .string (amountText a2), .slice none 0 0, .slice none 0 0]) (by rfl) rfl (by (try simp only [List.map_toArray, List.map_cons, List.map_nil]); first | done | rfl) (by simp only [Act.put, List.setIfInBounds_toArray, List.set_cons_zero, List.set_cons_succ]; rfl) (textS_calls (amountText a2) _) (fun w' hb => SO.out _ (HW.out.trans (hb.mono HW.out.size))) (fun wk hb hHeld => ?_)
      replace HK := Lib.hid (Kd.C_below HK.out hb); replace HW := Lib.hid (HW.out.trans (hb.mono HW.out.size)); clear hb
      refine qlit_ (i := 12) (N := some 15) (cs := ([(3, 0, a0), (3, 0, kindText a1), (3, 0, amountText a2)].flatMap leafC).toArray) (t := 25) 3 3 (bs_ 15 8191) rfl rfl (by kernel_rfl) (by decide) (by rfl) (by simp only [leafC, List.flatMap_cons, List.flatMap_nil, List.cons_append, List.nil_append]; first | (go_simp; done) | (go_simp; rfl)) (fun w' hb => SO.out _ (HW.out.trans (hb.mono HW.out.size))) (fun gk2 wk2 bk hb hHeld => ?_)
      have HL := Lib.hid (leaves_C [(3, 0, a0), (3, 0, kindText a1), (3, 0, amountText a2)] bk (by simp)); replace HW := Lib.hid (HW.out.trans (hb.mono HW.out.size)); replace HK := Lib.hid (Kd.C_below HK.out hb); clear bk hb
      refine norm_ (a' := ?_) ?_ ?_; rotate_left; (show Act.put _ (some 15) _ = _; simp only [Act.put, List.setIfInBounds_toArray, List.set_cons_zero, List.set_cons_succ]; rfl)
    rotate_right
    focus
      replace HW := Lib.hid (HW.out.trans (hb.mono HW.out.size)); clear hb
      refine qtwo_ (i := 0) (j := 7) (Ni := some 3) (Nj := some 10) (cs := #[.string (⟨#[110, 97, 109, 101]⟩ : ByteArray), .string (⟨#[107, 105, 110, 100]⟩ : ByteArray), .string (⟨#[103, 111, 97, 108]⟩ : ByteArray)]) (t := 9) 3 3 (bs_ 15 895) (bs_ 15 1022) rfl rfl rfl rfl (by kernel_rfl) (by decide) (by decide) (by rfl) (by first | (go_simp; done) | (go_simp; rfl)) Try.func24 (by kernel_rfl) rfl #[.string (kindText a1)] (.agg #[.int .i64 3, .int .i64 0, .string (kindText a1), .slice none 0 0, .slice none 0 0]) (by rfl) rfl (by (try simp only [List.map_toArray, List.map_cons, List.map_nil]); first | done | rfl) (by simp only [Act.put, List.setIfInBounds_toArray, List.set_cons_zero, List.set_cons_succ]; rfl) (textS_calls (kindText a1) _) (fun w' hb => SO.out _ (HW.out.trans (hb.mono HW.out.size))) (fun gk wk bk hb hHeld => ?_) (fun wk hb hHeld => ?_)
      focus
        have HK := Lib.hid (lits_C [(⟨#[110, 97, 109, 101]⟩ : ByteArray), (⟨#[107, 105, 110, 100]⟩ : ByteArray), (⟨#[103, 111, 97, 108]⟩ : ByteArray)] bk (by decide)); replace HW := Lib.hid (HW.out.trans (hb.mono HW.out.size)); clear bk hb
        refine norm_ (a' := ?_) ?_ ?_; rotate_left; (show Act.put _ (some 3) _ = _; simp only [Act.put, List.setIfInBounds_toArray, List.set_cons_zero, List.set_cons_succ]; rfl)
        refine qcall_ (i := 7) (N := some 10) (bs_ 15 1023) rfl rfl (by kernel_rfl) (by decide) Try.func24 (by kernel_rfl) rfl #[.string (kindText a1)] (.agg #[.int .i64 3, .int .i64 0, .string (kindText a1), .slice none 0 0, .slice none 0 0]) (by rfl) rfl (by (try simp only [List.map_toArray, List.map_cons, List.map_nil]); first | done | rfl) (by simp only [Act.put, List.setIfInBounds_toArray, List.set_cons_zero, List.set_cons_succ]; rfl) (textS_calls (kindText a1) _) (fun w' hb => SO.out _ (HW.out.trans (hb.mono HW.out.size))) (fun wk hb hHeld => ?_)
        replace HK := Lib.hid (Kd.C_below HK.out hb); replace HW := Lib.hid (HW.out.trans (hb.mono HW.out.size)); clear hb
        refine qcall_ (i := 10) (N := some 13) (bs_ 15 2047) rfl rfl (by kernel_rfl) (by decide) Try.func108 (by kernel_rfl) rfl #[.int .i64 a2] (.string (amountText a2)) (by rfl) rfl (by (try simp only [List.map_toArray, List.map_cons, List.map_nil]); first | done | rfl) (by simp only [Act.put, List.setIfInBounds_toArray, List.set_cons_zero, List.set_cons_succ]; rfl) (amountS_calls a2 _) (fun w' hb => SO.out _ (HW.out.trans (hb.mono HW.out.size))) (fun wk hb hHeld => ?_)
        replace HK := Lib.hid (Kd.C_below HK.out hb); replace HW := Lib.hid (HW.out.trans (hb.mono HW.out.size)); clear hb
        refine qcall_ (i := 11) (N := some 14) (bs_ 15 4095) rfl rfl (by kernel_rfl) (by decide) Try.func24 (by kernel_rfl) rfl #[.string (amountText a2)] (.agg #[.int .i64 3, .int .i64 0, .string (amountText a2), .slice none 0 0, .slice none 0 0]) (by rfl) rfl (by (try simp only [List.map_toArray, List.map_cons, List.map_nil]); first | done | rfl) (by simp only [Act.put, List.setIfInBounds_toArray, List.set_cons_zero, List.set_cons_succ]; rfl) (textS_calls (amountText a2) _) (fun w' hb => SO.out _ (HW.out.trans (hb.mono HW.out.size))) (fun wk hb hHeld => ?_)
        replace HK := Lib.hid (Kd.C_below HK.out hb); replace HW := Lib.hid (HW.out.trans (hb.mono HW.out.size)); clear hb
        refine qlit_ (i := 12) (N := some 15) (cs := ([(3, 0, a0), (3, 0, kindText a1), (3, 0, amountText a2)].flatMap leafC).toArray) (t := 25) 3 3 (bs_ 15 8191) rfl rfl (by kernel_rfl) (by decide) (by rfl) (by simp only [leafC, List.flatMap_cons, List.flatMap_nil, List.cons_append, List.nil_append]; first | (go_simp; done) | (go_simp; rfl)) (fun w' hb => SO.out _ (HW.out.trans (hb.mono HW.out.size))) (fun gk2 wk2 bk hb hHeld => ?_)
        have HL := Lib.hid (leaves_C [(3, 0, a0), (3, 0, kindText a1), (3, 0, amountText a2)] bk (by simp)); replace HW := Lib.hid (HW.out.trans (hb.mono HW.out.size)); replace HK := Lib.hid (Kd.C_below HK.out hb); clear bk hb
        refine norm_ (a' := ?_) ?_ ?_; rotate_left; (show Act.put _ (some 15) _ = _; simp only [Act.put, List.setIfInBounds_toArray, List.set_cons_zero, List.set_cons_succ]; rfl)
      rotate_right
      focus
        replace HW := Lib.hid (HW.out.trans (hb.mono HW.out.size)); clear hb
        refine qtwo_ (i := 0) (j := 10) (Ni := some 3) (Nj := some 13) (cs := #[.string (⟨#[110, 97, 109, 101]⟩ : ByteArray), .string (⟨#[107, 105, 110, 100]⟩ : ByteArray), .string (⟨#[103, 111, 97, 108]⟩ : ByteArray)]) (t := 9) 3 3 (bs_ 15 1023) (bs_ 15 2046) rfl rfl rfl rfl (by kernel_rfl) (by decide) (by decide) (by rfl) (by first | (go_simp; done) | (go_simp; rfl)) Try.func108 (by kernel_rfl) rfl #[.int .i64 a2] (.string (amountText a2)) (by rfl) rfl (by (try simp only [List.map_toArray, List.map_cons, List.map_nil]); first | done | rfl) (by simp only [Act.put, List.setIfInBounds_toArray, List.set_cons_zero, List.set_cons_succ]; rfl) (amountS_calls a2 _) (fun w' hb => SO.out _ (HW.out.trans (hb.mono HW.out.size))) (fun gk wk bk hb hHeld => ?_) (fun wk hb hHeld => ?_)
        focus
          have HK := Lib.hid (lits_C [(⟨#[110, 97, 109, 101]⟩ : ByteArray), (⟨#[107, 105, 110, 100]⟩ : ByteArray), (⟨#[103, 111, 97, 108]⟩ : ByteArray)] bk (by decide)); replace HW := Lib.hid (HW.out.trans (hb.mono HW.out.size)); clear bk hb
          refine norm_ (a' := ?_) ?_ ?_; rotate_left; (show Act.put _ (some 3) _ = _; simp only [Act.put, List.setIfInBounds_toArray, List.set_cons_zero, List.set_cons_succ]; rfl)
          refine qcall_ (i := 10) (N := some 13) (bs_ 15 2047) rfl rfl (by kernel_rfl) (by decide) Try.func108 (by kernel_rfl) rfl #[.int .i64 a2] (.string (amountText a2)) (by rfl) rfl (by (try simp only [List.map_toArray, List.map_cons, List.map_nil]); first | done | rfl) (by simp only [Act.put, List.setIfInBounds_toArray, List.set_cons_zero, List.set_cons_succ]; rfl) (amountS_calls a2 _) (fun w' hb => SO.out _ (HW.out.trans (hb.mono HW.out.size))) (fun wk hb hHeld => ?_)
          replace HK := Lib.hid (Kd.C_below HK.out hb); replace HW := Lib.hid (HW.out.trans (hb.mono HW.out.size)); clear hb
          refine qcall_ (i := 11) (N := some 14) (bs_ 15 4095) rfl rfl (by kernel_rfl) (by decide) Try.func24 (by kernel_rfl) rfl #[.string (amountText a2)] (.agg #[.int .i64 3, .int .i64 0, .string (amountText a2), .slice none 0 0, .slice none 0 0]) (by rfl) rfl (by (try simp only [List.map_toArray, List.map_cons, List.map_nil]); first | done | rfl) (by simp only [Act.put, List.setIfInBounds_toArray, List.set_cons_zero, List.set_cons_succ]; rfl) (textS_calls (amountText a2) _) (fun w' hb => SO.out _ (HW.out.trans (hb.mono HW.out.size))) (fun wk hb hHeld => ?_)
          replace HK := Lib.hid (Kd.C_below HK.out hb); replace HW := Lib.hid (HW.out.trans (hb.mono HW.out.size)); clear hb
          refine qlit_ (i := 12) (N := some 15) (cs := ([(3, 0, a0), (3, 0, kindText a1), (3, 0, amountText a2)].flatMap leafC).toArray) (t := 25) 3 3 (bs_ 15 8191) rfl rfl (by kernel_rfl) (by decide) (by rfl) (by simp only [leafC, List.flatMap_cons, List.flatMap_nil, List.cons_append, List.nil_append]; first | (go_simp; done) | (go_simp; rfl)) (fun w' hb => SO.out _ (HW.out.trans (hb.mono HW.out.size))) (fun gk2 wk2 bk hb hHeld => ?_)
          have HL := Lib.hid (leaves_C [(3, 0, a0), (3, 0, kindText a1), (3, 0, amountText a2)] bk (by simp)); replace HW := Lib.hid (HW.out.trans (hb.mono HW.out.size)); replace HK := Lib.hid (Kd.C_below HK.out hb); clear bk hb
          refine norm_ (a' := ?_) ?_ ?_; rotate_left; (show Act.put _ (some 15) _ = _; simp only [Act.put, List.setIfInBounds_toArray, List.set_cons_zero, List.set_cons_succ]; rfl)
        rotate_right
        focus
          replace HW := Lib.hid (HW.out.trans (hb.mono HW.out.size)); clear hb
          refine qtwo_ (i := 0) (j := 11) (Ni := some 3) (Nj := some 14) (cs := #[.string (⟨#[110, 97, 109, 101]⟩ : ByteArray), .string (⟨#[107, 105, 110, 100]⟩ : ByteArray), .string (⟨#[103, 111, 97, 108]⟩ : ByteArray)]) (t := 9) 3 3 (bs_ 15 2047) (bs_ 15 4094) rfl rfl rfl rfl (by kernel_rfl) (by decide) (by decide) (by rfl) (by first | (go_simp; done) | (go_simp; rfl)) Try.func24 (by kernel_rfl) rfl #[.string (amountText a2)] (.agg #[.int .i64 3, .int .i64 0, .string (amountText a2), .slice none 0 0, .slice none 0 0]) (by rfl) rfl (by (try simp only [List.map_toArray, List.map_cons, List.map_nil]); first | done | rfl) (by simp only [Act.put, List.setIfInBounds_toArray, List.set_cons_zero, List.set_cons_succ]; rfl) (textS_calls (amountText a2) _) (fun w' hb => SO.out _ (HW.out.trans (hb.mono HW.out.size))) (fun gk wk bk hb hHeld => ?_) (fun wk hb hHeld => ?_)
          focus
            have HK := Lib.hid (lits_C [(⟨#[110, 97, 109, 101]⟩ : ByteArray), (⟨#[107, 105, 110, 100]⟩ : ByteArray), (⟨#[103, 111, 97, 108]⟩ : ByteArray)] bk (by decide)); replace HW := Lib.hid (HW.out.trans (hb.mono HW.out.size)); clear bk hb
            refine norm_ (a' := ?_) ?_ ?_; rotate_left; (show Act.put _ (some 3) _ = _; simp only [Act.put, List.setIfInBounds_toArray, List.set_cons_zero, List.set_cons_succ]; rfl)
            refine qcall_ (i := 11) (N := some 14) (bs_ 15 4095) rfl rfl (by kernel_rfl) (by decide) Try.func24 (by kernel_rfl) rfl #[.string (amountText a2)] (.agg #[.int .i64 3, .int .i64 0, .string (amountText a2), .slice none 0 0, .slice none 0 0]) (by rfl) rfl (by (try simp only [List.map_toArray, List.map_cons, List.map_nil]); first | done | rfl) (by simp only [Act.put, List.setIfInBounds_toArray, List.set_cons_zero, List.set_cons_succ]; rfl) (textS_calls (amountText a2) _) (fun w' hb => SO.out _ (HW.out.trans (hb.mono HW.out.size))) (fun wk hb hHeld => ?_)
            replace HK := Lib.hid (Kd.C_below HK.out hb); replace HW := Lib.hid (HW.out.trans (hb.mono HW.out.size)); clear hb
            refine qlit_ (i := 12) (N := some 15) (cs := ([(3, 0, a0), (3, 0, kindText a1), (3, 0, amountText a2)].flatMap leafC).toArray) (t := 25) 3 3 (bs_ 15 8191) rfl rfl (by kernel_rfl) (by decide) (by rfl) (by simp only [leafC, List.flatMap_cons, List.flatMap_nil, List.cons_append, List.nil_append]; first | (go_simp; done) | (go_simp; rfl)) (fun w' hb => SO.out _ (HW.out.trans (hb.mono HW.out.size))) (fun gk2 wk2 bk hb hHeld => ?_)
            have HL := Lib.hid (leaves_C [(3, 0, a0), (3, 0, kindText a1), (3, 0, amountText a2)] bk (by simp)); replace HW := Lib.hid (HW.out.trans (hb.mono HW.out.size)); replace HK := Lib.hid (Kd.C_below HK.out hb); clear bk hb
            refine norm_ (a' := ?_) ?_ ?_; rotate_left; (show Act.put _ (some 15) _ = _; simp only [Act.put, List.setIfInBounds_toArray, List.set_cons_zero, List.set_cons_succ]; rfl)
          rotate_right
          focus
            replace HW := Lib.hid (HW.out.trans (hb.mono HW.out.size)); clear hb
            refine qlits_ (i := 0) (j := 12) (Ni := some 3) (Nj := some 15) (cs := #[.string (⟨#[110, 97, 109, 101]⟩ : ByteArray), .string (⟨#[107, 105, 110, 100]⟩ : ByteArray), .string (⟨#[103, 111, 97, 108]⟩ : ByteArray)]) (t := 9) (cs2 := ([(3, 0, a0), (3, 0, kindText a1), (3, 0, amountText a2)].flatMap leafC).toArray) (t2 := 25) 3 3 3 3 (bs_ 15 4095) (bs_ 15 8190) rfl rfl rfl rfl (by kernel_rfl) (by decide) (by decide) (by rfl) (by first | (go_simp; done) | (go_simp; rfl)) (by rfl) (by simp only [leafC, List.flatMap_cons, List.flatMap_nil, List.cons_append, List.nil_append]; first | (go_simp; done) | (go_simp; rfl)) (fun w' hb => SO.out _ (HW.out.trans (hb.mono HW.out.size))) (fun gk wk bk hb hHeld => ?_) (fun gk2 wk2 bk hb hHeld => ?_)
            focus
              have HK := Lib.hid (lits_C [(⟨#[110, 97, 109, 101]⟩ : ByteArray), (⟨#[107, 105, 110, 100]⟩ : ByteArray), (⟨#[103, 111, 97, 108]⟩ : ByteArray)] bk (by decide)); replace HW := Lib.hid (HW.out.trans (hb.mono HW.out.size)); clear bk hb
              refine norm_ (a' := ?_) ?_ ?_; rotate_left; (show Act.put _ (some 3) _ = _; simp only [Act.put, List.setIfInBounds_toArray, List.set_cons_zero, List.set_cons_succ]; rfl)
              refine qlit_ (i := 12) (N := some 15) (cs := ([(3, 0, a0), (3, 0, kindText a1), (3, 0, amountText a2)].flatMap leafC).toArray) (t := 25) 3 3 (bs_ 15 8191) rfl rfl (by kernel_rfl) (by decide) (by rfl) (by simp only [leafC, List.flatMap_cons, List.flatMap_nil, List.cons_append, List.nil_append]; first | (go_simp; done) | (go_simp; rfl)) (fun w' hb => SO.out _ (HW.out.trans (hb.mono HW.out.size))) (fun gk2 wk2 bk hb hHeld => ?_)
              have HL := Lib.hid (leaves_C [(3, 0, a0), (3, 0, kindText a1), (3, 0, amountText a2)] bk (by simp)); replace HW := Lib.hid (HW.out.trans (hb.mono HW.out.size)); replace HK := Lib.hid (Kd.C_below HK.out hb); clear bk hb
              refine norm_ (a' := ?_) ?_ ?_; rotate_left; (show Act.put _ (some 15) _ = _; simp only [Act.put, List.setIfInBounds_toArray, List.set_cons_zero, List.set_cons_succ]; rfl)
            rotate_right
            focus
              have HL := Lib.hid (leaves_C [(3, 0, a0), (3, 0, kindText a1), (3, 0, amountText a2)] bk (by simp)); replace HW := Lib.hid (HW.out.trans (hb.mono HW.out.size)); clear bk hb
              refine norm_ (a' := ?_) ?_ ?_; rotate_left; (show Act.put _ (some 15) _ = _; simp only [Act.put, List.setIfInBounds_toArray, List.set_cons_zero, List.set_cons_succ]; rfl)
              refine qlit_ (i := 0) (N := some 3) (cs := #[.string (⟨#[110, 97, 109, 101]⟩ : ByteArray), .string (⟨#[107, 105, 110, 100]⟩ : ByteArray), .string (⟨#[103, 111, 97, 108]⟩ : ByteArray)]) (t := 9) 3 3 (bs_ 15 8191) rfl rfl (by kernel_rfl) (by decide) (by rfl) (by first | (go_simp; done) | (go_simp; rfl)) (fun w' hb => SO.out _ (HW.out.trans (hb.mono HW.out.size))) (fun gk wk bk hb hHeld => ?_)
              have HK := Lib.hid (lits_C [(⟨#[110, 97, 109, 101]⟩ : ByteArray), (⟨#[107, 105, 110, 100]⟩ : ByteArray), (⟨#[103, 111, 97, 108]⟩ : ByteArray)] bk (by decide)); replace HW := Lib.hid (HW.out.trans (hb.mono HW.out.size)); replace HL := Lib.hid (Kd.C_below HL.out hb); clear bk hb
              refine norm_ (a' := ?_) ?_ ?_; rotate_left; (show Act.put _ (some 3) _ = _; simp only [Act.put, List.setIfInBounds_toArray, List.set_cons_zero, List.set_cons_succ]; rfl)
  all_goals
    refine one_ (i := 13) (N := some 16) (bs_ 15 16383) rfl rfl (by kernel_rfl) (by decide) (fun K hK => ?_)
    refine goes_ Try.func103 (by kernel_rfl) rfl #[.slice _ 3 3, .slice _ 3 3] (by rfl) rfl rfl (by (try simp only [List.map_toArray, List.map_cons, List.map_nil]); first | done | rfl) ?_
    refine (mapLS_calls [(⟨#[110, 97, 109, 101]⟩ : ByteArray), (⟨#[107, 105, 110, 100]⟩ : ByteArray), (⟨#[103, 111, 97, 108]⟩ : ByteArray)] [(3, 0, a0), (3, 0, kindText a1), (3, 0, amountText a2)] rfl (by simp) _ _ 3 3 _ HK.out (by decide) HL.out (by simp)).mono ?_
    rintro e wm ⟨v3, v4, fss, rfl, ht, hf, hb⟩
    refine ⟨_, rfl, ?_⟩
    have HF := Lib.hid (fun k hk => Nat.le_trans HW.out.size (hf k hk)); replace HW := Lib.hid (HW.out.trans (hb.mono HW.out.size)); have hs := Seen.of_top ht; obtain ⟨D3, r3, D4, r4, rfl, rfl, _, _, _, _⟩ := hs; have HT := Lib.hid ht; clear ht hf hb HK HL
    refine hK.out _ _ (SO.out _ HW.out) (fun hHeld => ?_)
    clear hK K
    refine norm_ (a' := ?_) ?_ ?_; rotate_left; (show Act.put _ (some 16) _ = _; simp only [Act.put, List.setIfInBounds_toArray, List.set_cons_zero, List.set_cons_succ]; rfl)
    have BKm := Lib.hid (blk_below BKr.out HW.out)
    refine last_ (i := 14) (N := none) (bs_ 15 32767) rfl rfl (by kernel_rfl) (by decide) (fun K hK => ?_)
    obtain ⟨z0, z1, z2, z3, z4⟩ := cells5 BKm.out; obtain ⟨f0, f1, f2, f3, f4⟩ := free5 BKm.out
    refine store5v_ (g := gr) _ _ _ _ _ (by rfl) rfl BKm.out (by first | (go_simp; done) | (go_simp; rfl)) ?_
    intro wz bk hc
    have HTZ := Lib.hid (Top_chg HT.out hc (fun k hk (e : k = gr) => by have h1 := HF.out k hk; have h2 := blk_lt BKr.out; omega)); have BKz := Lib.hid bk; have HBz := Lib.hid (below_chg (HBb.out.trans (HW.out.mono HBb.out.size)) (HBb.out.trans (HW.out.mono HBb.out.size)).size hc (fun k e => e ▸ GEr.out)); clear bk hc z0 z1 z2 z3 z4 f0 f1 f2 f3 f4
    refine hK.out _ _ ?_
    clear hK K
    refine done_ (by kernel_rfl) ?_
    go_wp2
    exact bodyPost_ret (results_cell_row rfl _ _ gr 25 _ (0, 0) _ rfl BKz.out Try.underlying25 rfl (by kernel_rfl)) rfl ⟨_, _, fss, rfl, HTZ.out, fun k hk => Nat.le_trans HBb.out.size (HF.out k hk), HBz.out⟩
end Go.Proofs.Ytnbnpgjgibcmpaa.H
