/- The reference's copy: a tree of one's own, as the one that came in. -/
import Derived.Test.YtdlhidjphaaklaaAid
import Derived.Test.YtdlhidjphaaklaaBase
import Derived.Test.YtdlhidjphaaklaaCopy
import Derived.Test.YtdlhidjphaaklaaGet
import Derived.Test.YtdlhidjphaaklaaLists
import Derived.Test.YtdlhidjphaaklaaMark
import Derived.Test.YtdlhidjphaaklaaOwn
import Derived.Test.YtdlhidjphaaklaaRun
import Derived.Deep.LoopGhost
namespace Go.Proofs.Ytdlhidjphaaklaa.H
open Go.RowKit Go.Proofs.Ytdlhidjphaaklaa.P Go.Proofs.YtdlhidjphaaklaaW.PrintWords Go.Proofs.YtdlhidjphaaklaaW.PrintLast Go.Proofs.Ytdlhidjphaaklaa.M
set_option linter.unusedVariables false
set_option linter.unusedSimpArgs false

/-- What l3Copy is to do. -/
def ToCopyS (x : S33) : Prop := ∀ (A3 A4 : Option Addr) (c3 c4 : Nat) (w : World), Kd.C Kd.string w A3 x.f3.length x.f3 → x.f3.length ≤ c3 → k33.C w A4 x.f4.length x.f4 → x.f4.length ≤ c4 →
    Calls Try.prog 65 #[.agg #[.int .i64 x.f0, .int .i64 x.f1, .string x.f2, .slice A3 x.f3.length c3, .slice A4 x.f4.length c4]] w fun e w' => Made w x e w'
set_option maxHeartbeats 8000000 in
set_option maxRecDepth 100000 in
theorem copyS_of (x : S33) (hc : cntTop x ≤ 1099511627776) (ih : ∀ y ∈ x.f4, ToCopyS y) : ToCopyS x := by
  intro A3 A4 c3 c4 w g3 l3 g4 l4
  have hu := Try.underlying33
  have mixed : Try.prog.follows .mixedOrders = true := by kernel_rfl
  have hl3 : x.f3.length ≤ 1099511627776 := by unfold cntTop at hc; omega
  have hl4 : x.f4.length ≤ 1099511627776 := by have := len_cnt x.f4; unfold cntTop at hc; omega
  have G3 := Lib.hid g3
  have G4 := Lib.hid g4
  have IH := Lib.hid ih
  clear g3 g4 ih hc
  unfold Made
  go_enter Try.func65, Try.ntmps65
  go_wp2_with (first
    | ((with_reducible refine gate_dst (N := 1) rfl ?_); refine box_event rfl (N := 1) rfl (cs := #[.int .i64 x.f0, .int .i64 x.f1, .string x.f2, .slice A3 x.f3.length c3, .slice A4 x.f4.length c4]) (t := 33) (by first | (go_simp; done) | (go_simp; rfl)) ?_; intro gb hgb wa bk hb; have HGB := Lib.hid hgb; have BKa := Lib.hid bk; have HBa := Lib.hid hb; clear hgb bk hb)
    | ((with_reducible refine gate_dst (N := 2) rfl ?_); refine box_event rfl (N := 2) rfl (cs := #[.int .i64 0, .int .i64 0, .string ⟨#[]⟩, .slice none 0 0, .slice none 0 0]) (t := 33) (by first | (go_simp; done) | (go_simp; rfl)) ?_; intro gr hgr wb bk hb; have HGR := Lib.hid hgr; have RSb := Lib.hid bk; have HBb := Lib.hid (HBa.out.trans (hb.mono HBa.out.size)); have BKb := Lib.hid (blk_below BKa.out hb); clear hgr bk hb))
  have hgb2 : gb < wb.heap.size := blk_lt BKb.out
  have SO : ∀ W : World, Below wb.heap.size wb W → W.cell? ⟨gb, 0, none⟩ = some (.int .i64 x.f0) ∧ W.cell? ⟨gb, 1, none⟩ = some (.int .i64 x.f1) ∧ W.cell? ⟨gb, 2, none⟩ = some (.string x.f2) ∧ W.cell? ⟨gb, 3, none⟩ = some (.slice A3 x.f3.length c3) ∧ Below wb.heap.size wb W := fun W hW => by
    obtain ⟨y0, y1, y2, y3, _⟩ := cells5 (blk_below BKb.out hW)
    exact ⟨y0, y1, y2, y3, hW⟩
  have HSO := Lib.hid SO
  have HSRC : Hid (∀ W : World, Below wb.heap.size wb W → SrcAt W A3 x.f3.length 1 (x.f3.map Value.string)) := fun W hW => ((Src_texts (Kd.C_below G3.out HBb.out)).below hW)
  clear SO
  go_region_held3 (fun W => W.cell? ⟨gb, 0, none⟩ = some (.int .i64 x.f0) ∧ W.cell? ⟨gb, 1, none⟩ = some (.int .i64 x.f1) ∧ W.cell? ⟨gb, 2, none⟩ = some (.string x.f2) ∧ W.cell? ⟨gb, 3, none⟩ = some (.slice A3 x.f3.length c3) ∧ Below wb.heap.size wb W)
    ((refine HSO.out _ ?_; first | exact HB1.out | exact below_alloc HB1.out _ | exact (((((HB1.out.setCell (by simp) _).setCell (by simp) _).setCell (by simp) _).setCell (by simp) _).setCell (by simp) _) | exact below_drew (Below.refl _ _) | exact below_alloc (by assumption : _ ∧ _ ∧ _ ∧ _ ∧ Below wb.heap.size wb _).2.2.2.2 _))
    ((refine step_append_rd rfl _ _ 22 9 rfl wb.heap.size 1 16 (.string ⟨#[]⟩) Try.underlying22 info9 rfl (by decide) _ 0 [] A3 x.f3.length c3 (x.f3.map Value.string) rfl rfl ?_ ?_ ?_ ?_ ?_ ?_; (focus (first | exact World.ownsRow_lit wb #[] 0 (Nat.le_refl _) (by decide) (by simp) | exact (World.ownsRow_lit wb #[] 0 (Nat.le_refl _) (by decide) (by simp)).alloc _ | (have h := World.ownsRow_lit (base := wb.heap.size) (e := 9) (size := 1) (wb.alloc (.cells #[.int .i64 0, .int .i64 0, .string ⟨#[]⟩, .slice none 0 0, .slice none 0 0] 33 (0, 0))) #[] 0 (by simp) (by decide) (by simp); rw [World.size_alloc] at h; exact h))); (focus (exact HSRC.out _ (by assumption : _ ∧ _ ∧ _ ∧ _ ∧ Below wb.heap.size wb _).2.2.2.2)); (focus (unfold maxLen; omega)); (focus (omega)); (focus (exact ((by assumption : _ ∧ _ ∧ _ ∧ _ ∧ Below wb.heap.size wb _).2.2.2.2).size)); (intro v1 w1 ho hg hat; have HB1 := Lib.hid (Below.grown (by assumption : _ ∧ _ ∧ _ ∧ _ ∧ Below wb.heap.size wb _).2.2.2.2 hg ((by assumption : _ ∧ _ ∧ _ ∧ _ ∧ Below wb.heap.size wb _).2.2.2.2).size (fun k hk => by have hq := Option.some.inj hk; subst hq; simp)); have HS1 := Lib.hid (show SRow w1 v1 x.f3 from by rw [Nat.zero_add, List.nil_append] at ho; exact own_weaken ho (Nat.zero_le _)); have HF1 := Lib.hid (fun k hk => own_base ho k hk); have HT1 := Lib.hid ho; (first | (have hzb : w1.heap[wb.heap.size + 1]? = some (.cells #[.int .i64 0, .int .i64 0, .string ⟨#[]⟩, .slice none 0 0, .slice none 0 0] 33 (0, 0)) := (hg.block (wb.heap.size + 1) (by simp <;> omega) (fun e => by have hq := Option.some.inj e; simp at hq)).trans (by have h := heap_alloc_new (wb.alloc (.cells #[] 9 (0, 0))) (.cells #[.int .i64 0, .int .i64 0, .string ⟨#[]⟩, .slice none 0 0, .slice none 0 0] 33 (0, 0)); rwa [show (wb.alloc (.cells #[] 9 (0, 0))).heap.size = wb.heap.size + 1 from by simp] at h); have HZB := Lib.hid hzb; obtain ⟨cc0, cc1, cc2, cc3, cc4⟩ := cells5 hzb; obtain ⟨ff0, ff1, ff2, ff3, ff4⟩ := free5 hzb; clear hzb) | (have hzb : w1.heap[wb.heap.size]? = some (.cells #[.int .i64 0, .int .i64 0, .string ⟨#[]⟩, .slice none 0 0, .slice none 0 0] 33 (0, 0)) := (hg.block wb.heap.size (by simp <;> omega) (fun e => by have hq := Option.some.inj e; simp at hq)).trans ((heap_alloc_old (wb.alloc (.cells #[.int .i64 0, .int .i64 0, .string ⟨#[]⟩, .slice none 0 0, .slice none 0 0] 33 (0, 0))) (.cells #[] 9 (0, 0)) (by simp)).trans (heap_alloc_new wb _)); have HZB := Lib.hid hzb; obtain ⟨cc0, cc1, cc2, cc3, cc4⟩ := cells5 hzb; obtain ⟨ff0, ff1, ff2, ff3, ff4⟩ := free5 hzb; clear hzb) | skip); clear ho hg hat; obtain ⟨B3, d3, rfl, m3, n3⟩ := SRow_C HS1.out; clear n3)))
  all_goals first
    | (have HBo := Lib.hid (put5 HZB.out (.int .i64 x.f0) (.int .i64 x.f1) (.string x.f2) (.slice B3 x.f3.length d3) (.slice none 0 0)); have HBF : Hid (Below wb.heap.size wb (((((w1.setCell ⟨wb.heap.size + 1, 0, none⟩ (.int .i64 x.f0)).setCell ⟨wb.heap.size + 1, 1, none⟩ (.int .i64 x.f1)).setCell ⟨wb.heap.size + 1, 2, none⟩ (.string x.f2)).setCell ⟨wb.heap.size + 1, 3, none⟩ (.slice B3 x.f3.length d3)).setCell ⟨wb.heap.size + 1, 4, none⟩ (.slice none 0 0))) := (((((HB1.out.setCell (by simp) _).setCell (by simp) _).setCell (by simp) _).setCell (by simp) _).setCell (by simp) _); have HSF : Hid (SRow (((((w1.setCell ⟨wb.heap.size + 1, 0, none⟩ (.int .i64 x.f0)).setCell ⟨wb.heap.size + 1, 1, none⟩ (.int .i64 x.f1)).setCell ⟨wb.heap.size + 1, 2, none⟩ (.string x.f2)).setCell ⟨wb.heap.size + 1, 3, none⟩ (.slice B3 x.f3.length d3)).setCell ⟨wb.heap.size + 1, 4, none⟩ (.slice none 0 0)) (.slice B3 x.f3.length d3) x.f3) := own_chg HS1.out (((((chg_put w1 (wb.heap.size + 1) 0 _).trans (chg_put _ (wb.heap.size + 1) 1 _)).trans (chg_put _ (wb.heap.size + 1) 2 _)).trans (chg_put _ (wb.heap.size + 1) 3 _)).trans (chg_put _ (wb.heap.size + 1) 4 _)) (fun k hk e => own_ne HS1.out HZB.out (by decide) (hk.trans (congrArg some e)).symm); have hgo : wb.heap.size ≤ wb.heap.size + 1 := (by omega); clear HZB HB1 HT1 HS1 cc0 cc1 cc2 cc3 cc4 ff0 ff1 ff2 ff3 ff4; generalize hF : (((((w1.setCell ⟨wb.heap.size + 1, 0, none⟩ (.int .i64 x.f0)).setCell ⟨wb.heap.size + 1, 1, none⟩ (.int .i64 x.f1)).setCell ⟨wb.heap.size + 1, 2, none⟩ (.string x.f2)).setCell ⟨wb.heap.size + 1, 3, none⟩ (.slice B3 x.f3.length d3)).setCell ⟨wb.heap.size + 1, 4, none⟩ (.slice none 0 0)) = F at HBo HBF HSF ⊢; clear hF; generalize hGG : wb.heap.size + 1 = go at HBo hgo ⊢; clear hGG)
    | (have HBo := Lib.hid (put5 HZB.out (.int .i64 x.f0) (.int .i64 x.f1) (.string x.f2) (.slice B3 x.f3.length d3) (.slice none 0 0)); have HBF : Hid (Below wb.heap.size wb (((((w1.setCell ⟨wb.heap.size, 0, none⟩ (.int .i64 x.f0)).setCell ⟨wb.heap.size, 1, none⟩ (.int .i64 x.f1)).setCell ⟨wb.heap.size, 2, none⟩ (.string x.f2)).setCell ⟨wb.heap.size, 3, none⟩ (.slice B3 x.f3.length d3)).setCell ⟨wb.heap.size, 4, none⟩ (.slice none 0 0))) := (((((HB1.out.setCell (by simp) _).setCell (by simp) _).setCell (by simp) _).setCell (by simp) _).setCell (by simp) _); have HSF : Hid (SRow (((((w1.setCell ⟨wb.heap.size, 0, none⟩ (.int .i64 x.f0)).setCell ⟨wb.heap.size, 1, none⟩ (.int .i64 x.f1)).setCell ⟨wb.heap.size, 2, none⟩ (.string x.f2)).setCell ⟨wb.heap.size, 3, none⟩ (.slice B3 x.f3.length d3)).setCell ⟨wb.heap.size, 4, none⟩ (.slice none 0 0)) (.slice B3 x.f3.length d3) x.f3) := own_chg HS1.out (((((chg_put w1 (wb.heap.size) 0 _).trans (chg_put _ (wb.heap.size) 1 _)).trans (chg_put _ (wb.heap.size) 2 _)).trans (chg_put _ (wb.heap.size) 3 _)).trans (chg_put _ (wb.heap.size) 4 _)) (fun k hk e => own_ne HS1.out HZB.out (by decide) (hk.trans (congrArg some e)).symm); have hgo : wb.heap.size ≤ wb.heap.size := (by omega); clear HZB HB1 HT1 HS1 cc0 cc1 cc2 cc3 cc4 ff0 ff1 ff2 ff3 ff4; generalize hF : (((((w1.setCell ⟨wb.heap.size, 0, none⟩ (.int .i64 x.f0)).setCell ⟨wb.heap.size, 1, none⟩ (.int .i64 x.f1)).setCell ⟨wb.heap.size, 2, none⟩ (.string x.f2)).setCell ⟨wb.heap.size, 3, none⟩ (.slice B3 x.f3.length d3)).setCell ⟨wb.heap.size, 4, none⟩ (.slice none 0 0)) = F at HBo HBF HSF ⊢; clear hF; clear hgo; obtain ⟨go, hGG⟩ : ∃ go, go = wb.heap.size := ⟨_, rfl⟩; rw [← hGG] at HBo ⊢; have hgo : wb.heap.size ≤ go := Nat.le_of_eq hGG.symm; clear hGG)
    | (have HBo := Lib.hid (heap_alloc_new w1 (.cells #[.int .i64 x.f0, .int .i64 x.f1, .string x.f2, .slice B3 x.f3.length d3, .slice none 0 0] 33 (0, 0))); have HBF : Hid (Below wb.heap.size wb (w1.alloc (.cells #[.int .i64 x.f0, .int .i64 x.f1, .string x.f2, .slice B3 x.f3.length d3, .slice none 0 0] 33 (0, 0)))) := below_alloc HB1.out _; have HSF : Hid (SRow (w1.alloc (.cells #[.int .i64 x.f0, .int .i64 x.f1, .string x.f2, .slice B3 x.f3.length d3, .slice none 0 0] 33 (0, 0))) (.slice B3 x.f3.length d3) x.f3) := own_below HS1.out (below_alloc (Below.refl _ _) _); have hgo : wb.heap.size ≤ w1.heap.size := HB1.out.size; generalize hF : w1.alloc (.cells #[.int .i64 x.f0, .int .i64 x.f1, .string x.f2, .slice B3 x.f3.length d3, .slice none 0 0] 33 (0, 0)) = F at HBo HBF HSF ⊢; clear hF; generalize hGG : w1.heap.size = go at HBo hgo ⊢; clear hGG)
  all_goals
    have BKF := Lib.hid (blk_below BKb.out HBF.out)
    have RSF := Lib.hid (blk_below RSb.out HBF.out)
    have HBL := Lib.hid (HBb.out.trans (HBF.out.mono HBb.out.size))
    have hgr2 : gr < wb.heap.size := blk_lt RSb.out
    have HW0 : Hid (wb.heap.size ≤ F.heap.size) := HBF.out.size
    have HND : Hid (((Value.slice B3 x.f3.length d3).ownBlock.toList ++ ((Value.slice none 0 0).ownBlock.toList ++ ([] : List (List Nat)).flatten)).Nodup) := by
      show List.Nodup _
      cases (Value.slice B3 x.f3.length d3).ownBlock <;> simp [Value.ownBlock]
    have HGE : Hid (∀ k ∈ (Value.slice B3 x.f3.length d3).ownBlock.toList ++ ((Value.slice none 0 0).ownBlock.toList ++ ([] : List (List Nat)).flatten), wb.heap.size ≤ k ∧ k ≠ go) := by
      show ∀ k ∈ _, _
      intro k hk
      have hk2 : (Value.slice B3 x.f3.length d3).ownBlock = some k := by simpa [Value.ownBlock] using hk
      exact ⟨HF1.out k hk2, fun e => own_ne HSF.out HBo.out (by decide) (hk2.trans (congrArg some e)).symm⟩
    have HBa0 : Hid (w.heap.size ≤ wa.heap.size) := HBa.out.size
    clear BKa HBa
    go_wp2
    go_loopg [4] (x.f4.length + 1) (fun kq v4 w' => ∃ (i : Nat) (inr : List Value) (fs : List (List Nat)) (u3 : Value), v4 = .int .i64 i ∧ i ≤ x.f4.length ∧ kq + i = x.f4.length + 1 ∧ Aside0 (w'.heap[go]? = some (.cells #[.int .i64 x.f0, .int .i64 x.f1, .string x.f2, .slice B3 x.f3.length d3, u3] 33 (0, 0))) ∧ Aside0 (w'.ownsRow wb.heap.size 33 5 u3 i inr) ∧ Aside0 (fs.length = i) ∧ Aside0 (∀ j (hj : j < x.f4.length) f, fs[j]? = some f → OT w' x.f4[j] ((inr.drop (j * 5)).take 5) f) ∧
      Aside0 (((Value.slice B3 x.f3.length d3).ownBlock.toList ++ (u3.ownBlock.toList ++ fs.flatten)).Nodup) ∧ Aside0 (∀ k ∈ (Value.slice B3 x.f3.length d3).ownBlock.toList ++ (u3.ownBlock.toList ++ fs.flatten), wb.heap.size ≤ k ∧ k ≠ go) ∧ Aside0 (SRow w' (.slice B3 x.f3.length d3) x.f3) ∧
      Aside0 (w'.heap[gb]? = some (.cells #[.int .i64 x.f0, .int .i64 x.f1, .string x.f2, .slice A3 x.f3.length c3, .slice A4 x.f4.length c4] 33 (0, 0))) ∧ Aside0 (w'.heap[gr]? = some (.cells #[.int .i64 0, .int .i64 0, .string ⟨#[]⟩, .slice none 0 0, .slice none 0 0] 33 (0, 0))) ∧ Aside0 (Below w.heap.size w w') ∧ Aside0 (wb.heap.size ≤ w'.heap.size))
    case atStart => exact ⟨0, [], [], _, rfl, Nat.zero_le _, by omega, ⟨HBo.out⟩, ⟨World.ownsRow_nil _ _ _ _⟩, ⟨rfl⟩, ⟨fun j hj f hf => by simp at hf⟩, ⟨HND.out⟩, ⟨HGE.out⟩, ⟨HSF.out⟩, ⟨BKF.out⟩, ⟨RSF.out⟩, ⟨HBL.out⟩, ⟨HW0.out⟩⟩
    case round =>
      obtain ⟨i, inr, fs, u3, rfl, hi, hq, BOr, HRr, HFl, HT, HN, HG, HSr, BKr, RSr, HBr, HWB⟩ := hrel
      obtain ⟨k1, rfl⟩ : ∃ k1, gk = k1 + 1 := ⟨gk - 1, by omega⟩
      by_cases hlt : i < x.f4.length
      · skip
        have hltb : decide (i < x.f4.length) = true := decide_eq_true hlt
        have hlti : (i : Int) < (x.f4.length : Int) := by omega
        have hz0 : (0 : Int) ≤ (i : Int) := by omega
        obtain ⟨ad, A3', c3', A4', c4', ea, x0, x1, x2, x3, x4, l3', g3, l4', g4⟩ := at_T33 G4.out (i : Int) (by omega) (by omega)
        have er : rd_T33 x.f4 (i : Int) = x.f4[i] := rdT2 x.f4 i hlt
        rw [er] at x0 x1 x2 x3 x4 l3' g3 l4' g4
        rw [Int.toNat_natCast] at x0 x1 x2 x3 x4
        subst ea
        have hadw0 : (ad.add (i * 5)).block < w.heap.size := World.block_lt_of_cell? w _ x0
        have hadw : (ad.add (i * 5)).block < wb.heap.size := Nat.lt_of_lt_of_le hadw0 HBb.out.size
        replace x0 := below_cell HBr.out hadw0 x0
        replace x1 := below_cell (a := ⟨(ad.add (i * 5)).block, _, none⟩) HBr.out hadw0 x1
        replace x2 := below_cell (a := ⟨(ad.add (i * 5)).block, _, none⟩) HBr.out hadw0 x2
        replace x3 := below_cell (a := ⟨(ad.add (i * 5)).block, _, none⟩) HBr.out hadw0 x3
        replace x4 := below_cell (a := ⟨(ad.add (i * 5)).block, _, none⟩) HBr.out hadw0 x4
        have G3' := Lib.hid (Kd.C_below g3 HBr.out)
        have G4' := Lib.hid (Kd.C_below g4 HBr.out)
        clear g3 g4 er hadw0
        have y4 : wr.cell? ⟨gb, 4, none⟩ = some (.slice (some ad) x.f4.length c4) := (blk_cell BKr.out 4).trans rfl
        have o4 : wr.cell? ⟨go, 4, none⟩ = some u3 := (blk_cell BOr.out 4).trans rfl
        have SO5 : Hid (∀ W : World, Below wb.heap.size wr W → W.cell? ⟨gb, 4, none⟩ = some (.slice (some ad) x.f4.length c4) ∧ W.cell? (ad.add (i * 5)) = some (.int .i64 x.f4[i].f0) ∧ W.cell? ⟨(ad.add (i * 5)).block, (ad.add (i * 5)).off + 1, none⟩ = some (.int .i64 x.f4[i].f1) ∧ W.cell? ⟨(ad.add (i * 5)).block, (ad.add (i * 5)).off + 2, none⟩ = some (.string x.f4[i].f2) ∧ W.cell? ⟨(ad.add (i * 5)).block, (ad.add (i * 5)).off + 3, none⟩ = some (.slice A3' x.f4[i].f3.length c3') ∧ W.cell? ⟨(ad.add (i * 5)).block, (ad.add (i * 5)).off + 4, none⟩ = some (.slice A4' x.f4[i].f4.length c4') ∧ Below wb.heap.size wr W) := fun W hW =>
          ⟨below_cell hW hgb2 y4, below_cell hW hadw x0, below_cell (a := ⟨(ad.add (i * 5)).block, _, none⟩) hW hadw x1, below_cell (a := ⟨(ad.add (i * 5)).block, _, none⟩) hW hadw x2, below_cell (a := ⟨(ad.add (i * 5)).block, _, none⟩) hW hadw x3, below_cell (a := ⟨(ad.add (i * 5)).block, _, none⟩) hW hadw x4, hW⟩
        go_wp2
        refine start_ (n := 12) (S := fun W => (W.cell? ⟨gb, 4, none⟩ = some (.slice (some ad) x.f4.length c4) ∧ W.cell? (ad.add (i * 5)) = some (.int .i64 x.f4[i].f0) ∧ W.cell? ⟨(ad.add (i * 5)).block, (ad.add (i * 5)).off + 1, none⟩ = some (.int .i64 x.f4[i].f1) ∧ W.cell? ⟨(ad.add (i * 5)).block, (ad.add (i * 5)).off + 2, none⟩ = some (.string x.f4[i].f2) ∧ W.cell? ⟨(ad.add (i * 5)).block, (ad.add (i * 5)).off + 3, none⟩ = some (.slice A3' x.f4[i].f3.length c3') ∧ W.cell? ⟨(ad.add (i * 5)).block, (ad.add (i * 5)).off + 4, none⟩ = some (.slice A4' x.f4[i].f4.length c4') ∧ Below wb.heap.size wr W) ∧ W.cell? ⟨go, 4, none⟩ = some u3) (ds := [11]) #[false, false, false, false, false, false, false, false, false, false, false, false] (by kernel_rfl) rfl rfl (⟨SO5.out _ ((below_drew (Below.refl _ _)).mono HWB.out), (blk_cell (blk_below BOr.out (below_drew (Below.refl _ _))) 4).trans rfl⟩) (fun hHeld => ?_)
        refine pure_ (i := 0) (N := some 23) (v := _) (a' := _) (bs_ 12 1) rfl rfl (by kernel_rfl) (fun _ _ _ h => h) (Or.inl ⟨by rfl, by intro w'; go_simp; first | with_reducible rfl | rfl⟩) (by simp only [Act.put, List.setIfInBounds_toArray, List.set_cons_zero, List.set_cons_succ]; rfl) ?_
        refine pure_ (i := 2) (N := some 25) (v := _) (a' := _) (bs_ 12 5) rfl rfl (by kernel_rfl) (fun _ _ _ h => h) (Or.inl ⟨by rfl, by intro w'; go_simp; first | with_reducible rfl | rfl⟩) (by simp only [Act.put, List.setIfInBounds_toArray, List.set_cons_zero, List.set_cons_succ]; rfl) ?_
        refine pure_ (i := 4) (N := some 27) (v := _) (a' := _) (bs_ 12 21) rfl rfl (by kernel_rfl) (fun _ _ _ h => h) (Or.inl ⟨by rfl, by intro w'; go_simp; first | with_reducible rfl | rfl⟩) (by simp only [Act.put, List.setIfInBounds_toArray, List.set_cons_zero, List.set_cons_succ]; rfl) ?_
        refine take_ (i := 1) (N := some 24) (v := ?_) (a' := ?_) (bs_ 12 23) rfl rfl (by kernel_rfl) (fun _ _ _ h => h) (Or.inl ⟨by rfl, ?_⟩) hHeld ?_ ?_
        rotate_left
        · rintro w' ⟨⟨s0, s1, s2, s3, s4, s5, _⟩, s6⟩
          go_simp
          (first | with_reducible rfl | rfl)
        rotate_left
        · simp only [Act.put, List.setIfInBounds_toArray, List.set_cons_zero, List.set_cons_succ]
          rfl
        refine take_ (i := 3) (N := some 26) (v := ?_) (a' := ?_) (bs_ 12 31) rfl rfl (by kernel_rfl) (fun _ _ _ h => h) (Or.inl ⟨by rfl, ?_⟩) hHeld ?_ ?_
        rotate_left
        · rintro w' ⟨⟨s0, s1, s2, s3, s4, s5, _⟩, s6⟩
          go_simp
          (first | with_reducible rfl | rfl)
        rotate_left
        · simp only [Act.put, List.setIfInBounds_toArray, List.set_cons_zero, List.set_cons_succ]
          rfl
        refine pure_ (i := 5) (N := some 28) (v := _) (a' := _) (bs_ 12 63) rfl rfl (by kernel_rfl) (fun _ _ _ h => h) (Or.inl ⟨by rfl, by intro w'; go_simp; first | with_reducible rfl | rfl⟩) (by simp only [Act.put, List.setIfInBounds_toArray, List.set_cons_zero, List.set_cons_succ]; rfl) ?_
        refine take_ (i := 6) (N := some 29) (v := ?_) (a' := ?_) (bs_ 12 127) rfl rfl (by kernel_rfl) (fun _ _ _ h => h) (Or.inl ⟨by rfl, ?_⟩) hHeld ?_ ?_
        rotate_left
        · rintro w' ⟨⟨s0, s1, s2, s3, s4, s5, _⟩, s6⟩
          go_simp
          (first | with_reducible rfl | rfl)
        rotate_left
        · simp only [Act.put, List.setIfInBounds_toArray, List.set_cons_zero, List.set_cons_succ]
          rfl
        refine one_ (i := 7) (N := some 30) (bs_ 12 255) rfl rfl (by kernel_rfl) (by decide) (fun K hK => ?_)
        refine goes_ Try.func65 (by kernel_rfl) rfl #[.agg #[.int .i64 x.f4[i].f0, .int .i64 x.f4[i].f1, .string x.f4[i].f2, .slice A3' x.f4[i].f3.length c3', .slice A4' x.f4[i].f4.length c4']] (by rfl) rfl rfl (by (try simp only [List.map_toArray, List.map_cons, List.map_nil]); first | done | rfl) ?_
        refine (IH.out x.f4[i] (List.getElem_mem hlt) _ _ _ _ _ (Kd.C_below G3'.out (below_drew (Below.refl _ _))) l3' (Kd.C_below G4'.out (below_drew (Below.refl _ _))) l4').mono ?_
        rintro e w6 ⟨v3, v4, gss, rfl, ht, hg2, hb2⟩
        refine ⟨_, rfl, ?_⟩
        obtain ⟨D3, e3, rfl, m3', n3⟩ := SRow_C ht.1
        obtain ⟨D4, e4, rfl, m4', n4⟩ := ORow_C ht.2.1
        have HT6 := Lib.hid ht
        have HG6 := Lib.hid (fun k hk => (hg2 k hk : wr.heap.size ≤ k))
        have HW6 := Lib.hid ((below_drew (Below.refl wr.heap.size wr)).trans hb2)
        have HL6 := Lib.hid (HBr.out.trans (HW6.out.mono HBr.out.size))
        have o46 := (blk_cell (blk_below BOr.out HW6.out) 4).trans (rfl : _ = some u3)
        have o47 := (blk_cell (blk_below BOr.out (below_alloc HW6.out (.cells #[.int .i64 x.f4[i].f0, .int .i64 x.f4[i].f1, .string x.f4[i].f2, .slice D3 x.f4[i].f3.length e3, .slice D4 x.f4[i].f4.length e4] 33))) 4).trans (rfl : _ = some u3)
        have HQ6 := Lib.hid ((below_drew (Below.refl wr.heap.size wr)).trans hb2 |>.mono HWB.out)
        clear ht hg2 hb2 n3 n4
        refine hK.out _ _ (⟨SO5.out _ HQ6.out, o46⟩) (fun hHeld => ?_)
        clear hK K
        refine norm_ (a' := ?_) ?_ ?_
        rotate_left
        · show Act.put _ (some 30) _ = _
          simp only [Act.put, List.setIfInBounds_toArray, List.set_cons_zero, List.set_cons_succ]
          rfl
        refine one_ (i := 8) (N := some 31) (bs_ 12 511) rfl rfl (by kernel_rfl) (by decide) (fun K hK => ?_)
        refine value_ (w1 := ?_) (v := ?_) (by rfl) rfl ?_ ?_
        rotate_left 2
        · go_simp
          constructor
          · rfl
          · rfl
        refine hK.out _ _ (⟨SO5.out _ (HQ6.out.alloc (Nat.le_trans HWB.out HW6.out.size) _), o47⟩) (fun hHeld => ?_)
        clear hK K
        refine norm_ (a' := ?_) ?_ ?_
        rotate_left
        · show Act.put _ (some 31) _ = _
          simp only [Act.put, List.setIfInBounds_toArray, List.set_cons_zero, List.set_cons_succ]
          rfl
        refine one_ (i := 9) (N := some 32) (bs_ 12 1023) rfl rfl (by kernel_rfl) (by decide) (fun K hK => ?_)
        (refine step_append_rd rfl _ _ 31 33 rfl wb.heap.size 5 80 (.agg #[(.int .i64 0), (.int .i64 0), (.string ⟨#[]⟩), (.slice none 0 0), (.slice none 0 0)]) Try.underlying31 info33 rfl (by decide) u3 i inr (some ⟨w6.heap.size, 0, none⟩) 1 1 [.int .i64 x.f4[i].f0, .int .i64 x.f4[i].f1, .string x.f4[i].f2, .slice D3 x.f4[i].f3.length e3, .slice D4 x.f4[i].f4.length e4] rfl rfl ?_ ?_ ?_ ?_ ?_ ?_; (focus (exact own_below HRr.out (below_alloc HW6.out _))); (focus (exact Src_box w6 _ _ 5 rfl (by intro u hu; simp at hu; rcases hu with rfl | rfl | rfl | rfl | rfl <;> rfl))); (focus (unfold maxLen; omega)); (focus omega); (focus (exact Nat.le_trans HWB.out (below_alloc HW6.out _).size)); (intro u7 w7 hown hgr hat; have HO7 := Lib.hid hown; have HGR7 := Lib.hid hgr; have HAT7 := Lib.hid hat; have BO7 := Lib.hid (blk_grown (blk_below BOr.out (below_alloc HW6.out (.cells #[.int .i64 x.f4[i].f0, .int .i64 x.f4[i].f1, .string x.f4[i].f2, .slice D3 x.f4[i].f3.length e3, .slice D4 x.f4[i].f4.length e4] 33))) hgr (fun e => (HG.out go (by simp [← e])).2 rfl)); obtain ⟨ob0, ob1, ob2, ob3, ob4⟩ := cells5 BO7.out; obtain ⟨fo0, fo1, fo2, fo3, fo4⟩ := free5 BO7.out; have HQ7 := Lib.hid (Below.grown (HQ6.out.alloc (Nat.le_trans HWB.out HW6.out.size) _) hgr (Nat.le_trans HWB.out (below_alloc HW6.out _).size) (fun k hk => (HG.out k (by simp [hk])).1)); obtain ⟨g7, cap7, rfl⟩ := own_form hown (by omega); clear hown hgr hat))
        refine hK.out _ _ (⟨SO5.out _ HQ7.out, ob4⟩) (fun hHeld => ?_)
        clear hK K
        refine norm_ (a' := ?_) ?_ ?_
        rotate_left
        · show Act.put _ (some 32) _ = _
          simp only [Act.put, List.setIfInBounds_toArray, List.set_cons_zero, List.set_cons_succ]
          rfl
        refine pure_ (i := 10) (N := some 33) (v := _) (a' := _) (bs_ 12 2047) rfl rfl (by kernel_rfl) (fun _ _ _ h => h) (Or.inl ⟨by rfl, by intro w'; go_simp; first | with_reducible rfl | rfl⟩) (by simp only [Act.put, List.setIfInBounds_toArray, List.set_cons_zero, List.set_cons_succ]; rfl) ?_
        refine last_ (i := 11) (N := none) (bs_ 12 4095) rfl rfl (by kernel_rfl) (by decide) (fun K hK => ?_)
        refine skip_ (w1 := ?_) (by rfl) rfl ?_ ?_
        rotate_left
        · go_simp
          rfl
        refine hK.out _ _ ?_
        clear hK K
        refine done_ (by kernel_rfl) ?_
        all_goals
          have hfp6 : ∀ k ∈ topFp (.slice D3 x.f4[i].f3.length e3) (.slice D4 x.f4[i].f4.length e4) gss, wr.heap.size ≤ k ∧ k < w6.heap.size := fun k hk => ⟨HG6.out k hk, Top_lt HT6.out k hk⟩
          have hown : ∀ k ∈ (Value.slice B3 x.f3.length d3).ownBlock.toList ++ (u3.ownBlock.toList ++ fs.flatten), k < wr.heap.size := by
            intro k hk
            simp only [List.mem_append, mem_own] at hk
            rcases hk with hk | hk | hk
            · exact (HSr.out.lt k hk).2
            · exact (HRr.out.lt k hk).2
            · obtain ⟨f, hf, hkf⟩ := List.mem_flatten.1 hk
              obtain ⟨j, hj, rfl⟩ := List.getElem_of_mem hf
              have hj2 : j < x.f4.length := by have := HFl.out; omega
              exact OT_lt _ _ _ (HT.out j hj2 _ (List.getElem?_eq_getElem hj)) k hkf
          have hat : (Value.slice (some ⟨g7, 0, none⟩) (i + 1) cap7).ownBlock.toList = u3.ownBlock.toList ∨ ∃ q, (Value.slice (some ⟨g7, 0, none⟩) (i + 1) cap7).ownBlock.toList = [q] ∧ w6.heap.size ≤ q := by
            rcases HAT7.out with e | e
            · exact .inl (by rw [e])
            · exact .inr ⟨_, by rw [e]; rfl, by simp⟩
          have hcg : Chg (fun k => u3.ownBlock = some k) wr w7 := (Chg.of_same (below_alloc HW6.out _)).trans (Chg.grown HGR7.out (fun k e => e))
          have hs6 := HW6.out.size
          have hsw := HWB.out
          have hgl : go < wr.heap.size := blk_lt BOr.out
          have hu3 : ∀ k, u3.ownBlock = some k → wb.heap.size ≤ k ∧ k ≠ go := fun k hk => HG.out k (by simp [hk])
          have hu7 : ∀ k, (Value.slice (some ⟨g7, 0, none⟩) (i + 1) cap7).ownBlock = some k → wb.heap.size ≤ k ∧ k ≠ go := fun k hk => by
            rcases HAT7.out with e | e
            · exact hu3 k (e ▸ hk)
            · have hq : k = w6.heap.size + 0 ∨ True := .inr trivial
              rw [e] at hk
              have hq2 := Option.some.inj hk
              simp at hq2
              omega
          have hinr : inr.length = i * 5 := HRr.out.1
          have HFP := Lib.hid hfp6
          have HOWN := Lib.hid hown
          have HATT := Lib.hid hat
          have HCG := Lib.hid hcg
          have HU3 := Lib.hid hu3
          have HU7 := Lib.hid hu7
          have HC8 := Lib.hid (hcg.mono (S' := fun k => u3.ownBlock = some k ∨ k = go) (fun k _ e => .inl e) |>.trans ((chg_put w7 go 4 (Value.slice (some ⟨g7, 0, none⟩) (i + 1) cap7)).mono (fun k _ e => .inr e)))
          clear hfp6 hown hat hcg hu3 hu7
          go_wp2
          go_roundg k1
          case rel =>
            refine ⟨i + 1, inr ++ [Value.int .i64 x.f4[i].f0, .int .i64 x.f4[i].f1, .string x.f4[i].f2, .slice D3 x.f4[i].f3.length e3, .slice D4 x.f4[i].f4.length e4], fs ++ [topFp (.slice D3 x.f4[i].f3.length e3) (.slice D4 x.f4[i].f4.length e4) gss], _, by go_num, by omega, by omega, ⟨blk_put BO7.out 4 (Value.slice (some ⟨g7, 0, none⟩) (i + 1) cap7) rfl⟩, ⟨own_chg HO7.out (chg_put w7 go 4 (Value.slice (some ⟨g7, 0, none⟩) (i + 1) cap7)) (fun k hk e => (HU7.out k hk).2 e)⟩, ⟨by rw [List.length_append, HFl.out]; rfl⟩, ⟨fun j hj f hf => ?_⟩, ⟨?_⟩, ⟨fun k hk => ?_⟩, ⟨?_⟩, ⟨?_⟩, ⟨?_⟩, ⟨?_⟩, ⟨by have := HC8.out.size; omega⟩⟩
            · rcases Nat.lt_or_ge j i with hji | hji
              · rw [List.getElem?_append_left (by rw [HFl.out]; exact hji)] at hf
                have e1 : ((inr ++ [Value.int .i64 x.f4[i].f0, .int .i64 x.f4[i].f1, .string x.f4[i].f2, .slice D3 x.f4[i].f3.length e3, .slice D4 x.f4[i].f4.length e4]).drop (j * 5)).take 5 = (inr.drop (j * 5)).take 5 := by
                  rw [List.drop_append_of_le_length (by omega), List.take_append_of_le_length (by rw [List.length_drop]; omega)]
                rw [e1]
                refine OT_chg HC8.out _ _ _ (HT.out j hj f hf) (fun k hk e => ?_)
                have hn2 := (List.nodup_append.1 (List.nodup_append.1 HN.out).2.1).2.2
                rcases e with e | e
                · exact hn2 k (by simp [e]) k (mem_flat hf hk) rfl
                · exact (HG.out k (by simp only [List.mem_append]; exact .inr (.inr (mem_flat hf hk)))).2 e
              · have hjl := (List.getElem?_eq_some_iff.1 hf).1
                rw [List.length_append, HFl.out, List.length_singleton] at hjl
                obtain rfl : j = i := by omega
                rw [List.getElem?_append_right (by rw [HFl.out]; exact Nat.le_refl _), HFl.out, Nat.sub_self] at hf
                obtain rfl := Option.some.inj hf
                have e1 : ((inr ++ [Value.int .i64 x.f4[j].f0, .int .i64 x.f4[j].f1, .string x.f4[j].f2, .slice D3 x.f4[j].f3.length e3, .slice D4 x.f4[j].f4.length e4]).drop (j * 5)).take 5 = [Value.int .i64 x.f4[j].f0, .int .i64 x.f4[j].f1, .string x.f4[j].f2, .slice D3 x.f4[j].f3.length e3, .slice D4 x.f4[j].f4.length e4] := by
                  rw [← hinr, List.drop_left]
                  rfl
                rw [e1]
                have hcl : Chg (fun k => u3.ownBlock = some k ∨ k = go) w6 (w7.setCell ⟨go, 4, none⟩ (Value.slice (some ⟨g7, 0, none⟩) (j + 1) cap7)) := ((Chg.of_same (S := fun k => u3.ownBlock = some k ∨ k = go) (below_alloc (Below.refl _ _) _)).trans (Chg.grown HGR7.out (fun k e => .inl e))).trans ((chg_put w7 go 4 (Value.slice (some ⟨g7, 0, none⟩) (j + 1) cap7)).mono (fun k _ e => .inr e))
                have htop := Top_chg HT6.out hcl (fun k hk e => by
                  have h1 := (HFP.out k hk).1
                  rcases e with e | e
                  · have := (HRr.out.lt k e).2; omega
                  · omega)
                rw [OT_iff]
                exact ⟨_, _, gss, rfl, htop.1, htop.2.1, rfl⟩
            · rw [List.flatten_append, List.flatten_singleton]
              exact app_fp HN.out HT6.out.2.2 HOWN.out HFP.out HATT.out hs6
            · rw [List.flatten_append, List.flatten_singleton] at hk
              simp only [List.mem_append] at hk
              rcases hk with hk | hk | hk | hk
              · exact HG.out k (by simp only [List.mem_append]; exact .inl hk)
              · exact HU7.out k (mem_own.1 hk)
              · exact HG.out k (by simp only [List.mem_append]; exact .inr (.inr hk))
              · have := (HFP.out k hk).1
                exact ⟨by omega, by omega⟩
            · exact own_chg HSr.out HC8.out (fun k hk e => by
                rcases e with e | e
                · exact (List.nodup_append.1 HN.out).2.2 k (by simp [hk]) k (by simp [e]) rfl
                · exact (HG.out k (by simp [hk])).2 e)
            · refine (HC8.out.block gb (blk_lt BKr.out) (fun e => ?_)).trans BKr.out
              rcases e with e | e
              · have := (HU3.out gb e).1; omega
              · omega
            · refine (HC8.out.block gr (blk_lt RSr.out) (fun e => ?_)).trans RSr.out
              rcases e with e | e
              · have := (HU3.out gr e).1; omega
              · omega
            · exact below_chg HBr.out HBr.out.size HC8.out (fun k e => by
                have hw := HBb.out.size
                rcases e with e | e
                · have := (HU3.out k e).1; omega
                · omega)
          case measure => omega
      · obtain rfl : i = x.f4.length := by omega
        have hu4 : ∃ B4 d4, u3 = .slice B4 x.f4.length d4 := by
          rcases HRr.out.2 with ⟨rfl, h0⟩ | ⟨g, cap, cur, rfl, _⟩
          · exact ⟨none, 0, by rw [h0]⟩
          · exact ⟨_, _, rfl⟩
        obtain ⟨B4, d4, rfl⟩ := hu4
        obtain ⟨y0, y1, y2, y3, y4⟩ := cells5 BKr.out
        obtain ⟨o0, o1, o2, o3, o4⟩ := cells5 BOr.out
        obtain ⟨r0, r1, r2, r3, r4⟩ := cells5 RSr.out
        obtain ⟨p0, p1, p2, p3, p4⟩ := free5 RSr.out
        have hlti : ¬ (x.f4.length : Int) < (x.f4.length : Int) := by omega
        have hgw : w.heap.size ≤ gr := by rw [HGR.out]; exact HBa0.out
        go_wp2
        have hs1 : ∀ k ∈ topFp (.slice B3 x.f3.length d3) (.slice B4 x.f4.length d4) fs, wb.heap.size ≤ k := fun k hk => (HG.out k hk).1
        have htop : Top wr (.slice B3 x.f3.length d3) (.slice B4 x.f4.length d4) x fs := ⟨HSr.out, ⟨inr, own_weaken HRr.out (Nat.zero_le _), HFl.out, fun j hj f hf => HT.out j hj f hf⟩, HN.out⟩
        have hwb := HBb.out.size
        exact bodyPost_ret (v := .agg #[.int .i64 x.f0, .int .i64 x.f1, .string x.f2, .slice B3 x.f3.length d3, .slice B4 x.f4.length d4]) (by simp [results, Try.results65, go_sem, r0, r1, r2, r3, r4, p0, p1, p2, p3, p4]) rfl
          ⟨_, _, rfl, fs, Top_chg (S := fun k => k < wb.heap.size) htop (((((Chg.set _ ⟨gr, 0, none⟩ _ hgr2).trans (Chg.set _ ⟨gr, 1, none⟩ _ hgr2)).trans (Chg.set _ ⟨gr, 2, none⟩ _ hgr2)).trans (Chg.set _ ⟨gr, 3, none⟩ _ hgr2)).trans (Chg.set _ ⟨gr, 4, none⟩ _ hgr2)) (fun k hk e => by have := hs1 k hk; omega), fun k hk => by have := hs1 k hk; omega, ((((HBr.out.setCell (p := ⟨gr, 0, none⟩) hgw _).setCell (p := ⟨gr, 1, none⟩) hgw _).setCell (p := ⟨gr, 2, none⟩) hgw _).setCell (p := ⟨gr, 3, none⟩) hgw _).setCell (p := ⟨gr, 4, none⟩) hgw _⟩
/-- Trees that are not too great are copied. -/
theorem copyS_all (x : S33) : cntTop x ≤ 1099511627776 → ToCopyS x := by
  refine tree_ind (P := fun x => cntTop x ≤ 1099511627776 → ToCopyS x) (fun x ih hc => copyS_of x hc (fun y hy => ih y hy ?_)) x
  have h1 := mem_le_sum cntK x.f4 y hy
  have h2 := cntK_eq y
  unfold cntTop at hc ⊢
  omega
end Go.Proofs.Ytdlhidjphaaklaa.H
