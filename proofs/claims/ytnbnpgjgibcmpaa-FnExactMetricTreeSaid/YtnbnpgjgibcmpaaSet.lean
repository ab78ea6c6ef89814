/- Set: where a new Key goes; a text, a tree more in a row. -/
import Derived.Test.YtnbnpgjgibcmpaaAid
import Derived.Test.YtnbnpgjgibcmpaaCopy
import Derived.Test.YtnbnpgjgibcmpaaDelete
import Derived.Test.YtnbnpgjgibcmpaaGet
import Derived.Test.YtnbnpgjgibcmpaaInsert
import Derived.Test.YtnbnpgjgibcmpaaLaw
import Derived.Test.YtnbnpgjgibcmpaaListOf
import Derived.Test.YtnbnpgjgibcmpaaLists
import Derived.Test.YtnbnpgjgibcmpaaMake
import Derived.Test.YtnbnpgjgibcmpaaMark
import Derived.Test.YtnbnpgjgibcmpaaOwn
import Derived.Test.YtnbnpgjgibcmpaaUnset
import Derived.Test.YtnbnpgjgibcmpaaUnsetW
import Derived.Laws.Cover1
import Derived.Deep.LoopGhost
namespace Go.Proofs.Ytnbnpgjgibcmpaa.H
open Go.RowKit Go.Proofs.Ytnbnpgjgibcmpaa.P Go.Proofs.YtnbnpgjgibcmpaaW.PrintWords Go.Proofs.Ytnbnpgjgibcmpaa.M
set_option linter.unusedVariables false
set_option linter.unusedSimpArgs false

theorem getD_at (l : List ByteArray) (j : Nat) (h : j < l.length) : l.getD j ByteArray.empty = l[j] := by rw [List.getD_eq_getElem?_getD, List.getElem?_eq_getElem h]; rfl
/-- A text above a Key. -/
def aboveB (key s : ByteArray) : Bool := !(Op.bytesLess s.toList key.toList || s.toList == key.toList)
/-- Where a new Key goes. -/
def insAt (l : List ByteArray) (key : ByteArray) : Nat := l.findIdx (aboveB key)
theorem insAt_le (l : List ByteArray) (key : ByteArray) : insAt l key ≤ l.length := List.findIdx_le_length
theorem above_calls (key s : ByteArray) (B : Nat) (w : World) (hc : w.cell? ⟨B, 0, none⟩ = some (.string key)) :
    Calls Try.prog 100 #[.string s, .pointer (some ⟨B, 0, none⟩)] w fun e w' => e = .returned (.bool (aboveB key s)) ∧ w' = w := by
  go_enter Try.func100, Try.ntmps100
  go_wp2
  go_ret
  refine ⟨?_, rfl⟩
  unfold aboveB
  rw [Bool.not_or]
  rfl
/-- .. as a number: -1 where none is above. -/
def abInt (l : List ByteArray) (key : ByteArray) : Int := if insAt l key < l.length then (insAt l key : Int) else -1
set_option maxHeartbeats 4000000 in
theorem idxF_calls (A : Option Addr) (c : Nat) (l : List ByteArray) (key : ByteArray) (B : Nat) (w : World) (hr : Kd.C Kd.string w A l.length l) (hk : w.cell? ⟨B, 0, none⟩ = some (.string key)) :
    Calls Try.prog 99 #[.slice A l.length c, .func (.func 100) #[] #[.pointer (some ⟨B, 0, none⟩)]] w fun e w' => e = .returned (.int .i64 (abInt l key)) ∧ w' = w := by
  have eg : ∀ args w, (callFunc 100 args).run Try.prog w = .ok (.enter 100 args) w := enters_of Try.func100 (by kernel_rfl) rfl
  have hu := Try.underlying9
  have hab : ∀ s, Calls Try.prog 100 (#[.string s] ++ #[.pointer (some ⟨B, 0, none⟩)]) w fun e w' => e = .returned (.bool (aboveB key s)) ∧ w' = w := fun s => above_calls key s B w hk
  have hlen : l.length ≤ 9223372036854775807 := hr.2.1
  have hpt : ∃ A0 : Option Addr, A0 = A := ⟨A, rfl⟩
  have hcell : 0 < l.length → ∃ b off, A = some ⟨b, off, none⟩ ∧ ∀ j, j < l.length → w.cell? ⟨b, off + j, none⟩ = some (.string (l.getD j ByteArray.empty)) := fun h0 => C_cells h0 hr
  have HC := Lib.hid hcell
  clear hr hcell hpt
  go_enter Try.func99, Try.ntmps99
  go_wp2
  go_loopg [5, 8] l.length (fun gg _ s8 wr => ∃ kk : Nat, kk ≤ l.length ∧ l.length - kk ≤ gg ∧ s8 = .int .i64 kk ∧ wr = w ∧ Aside (∀ j, j < kk → aboveB key (l.getD j ByteArray.empty) = false))
  case atStart => exact ⟨0, Nat.zero_le _, by omega, rfl, rfl, fun j hj => absurd hj (Nat.not_lt_zero _)⟩
  case round =>
    obtain ⟨kk, hkk, hg, rfl, rfl, HA⟩ := hrel
    by_cases hlt : kk < l.length
    · have hltz : (kk : Int) < (l.length : Int) := by omega
      obtain ⟨b, off, rfl, hc⟩ := HC.out (by omega)
      have hcell := hc kk hlt
      clear hc
      obtain ⟨s, hs⟩ : ∃ s, l.getD kk ByteArray.empty = s := ⟨_, rfl⟩
      rw [hs] at hcell
      have HS : Aside (l.getD kk ByteArray.empty = s) := hs
      clear hs
      have hcall := hab s
      cases hq : aboveB key s with
      | true =>
        rw [hq] at hcall
        go_wp2_with (go_at_fn 100; refine hcall.mono ?_; rintro e w' ⟨rfl, rfl⟩)
        go_ret
        refine ⟨?_, rfl⟩
        have hf : insAt l key = kk := by
          unfold insAt
          rw [List.findIdx_eq hlt]
          refine ⟨?_, fun j hj => ?_⟩
          · have e := HS.out
            rw [getD_at _ _ hlt] at e
            rw [e]
            exact hq
          · have e := HA.out j hj
            rwa [getD_at _ _ (by omega)] at e
        unfold abInt
        rw [hf, if_pos hlt]
        rfl
      | false =>
        rw [hq] at hcall
        go_wp2_with (go_at_fn 100; refine hcall.mono ?_; rintro e w' ⟨rfl, rfl⟩)
        go_roundg (l.length - (kk + 1))
        case measure => omega
        case rel =>
          refine ⟨kk + 1, by omega, by omega, by go_num, rfl, (show Aside _ from fun j hj => ?_)⟩
          by_cases e : j = kk
          · subst e
            rw [HS.out]; exact hq
          · exact HA.out j (by omega)
    · have hltz : ¬ (kk : Int) < (l.length : Int) := by omega
      have : kk = l.length := by omega
      subst this
      go_wp2
      go_ret
      refine ⟨?_, rfl⟩
      have hf : insAt l key = l.length := by
        unfold insAt
        rw [List.findIdx_eq_length]
        intro x hx
        obtain ⟨j, hj, rfl⟩ := List.getElem_of_mem hx
        have e := HA.out j hj
        rwa [getD_at _ _ hj] at e
      unfold abInt
      rw [hf, if_neg (Nat.lt_irrefl _)]
      rfl
/-- Every cell of a row of trees is one cell. -/
theorem ot_one {w : World} {y : S25} {cs : List Value} {fp : List Nat} (h : OT w y cs fp) : cs.length = 5 ∧ ∀ u ∈ cs, u.oneCell' = true := by
  rw [OT_iff] at h
  obtain ⟨v3, v4, gss, rfl, h6, h7, _⟩ := h
  obtain ⟨B3, d3, rfl, _, _⟩ := SRow_C h6
  obtain ⟨B4, d4, rfl, _, _⟩ := ORow_C h7
  refine ⟨rfl, fun u hu => ?_⟩
  simp at hu
  rcases hu with e | e | e | e | e <;> rw [e] <;> rfl
/-- A text more. -/
theorem insS_row (v : Value) (ks : List ByteArray) (key : ByteArray) (i vb : Nat) (w : World) (h : SRow w v ks) (hi : i ≤ ks.length) (hn : ks.length ≤ 1099511627776) (hv : w.heap[vb]? = some (.cells #[.string key] 9 (0, 0))) (hne : ∀ k, v.ownBlock = some k → vb ≠ k) :
    Calls Try.prog 101 #[v, .int .i64 i, .slice (some ⟨vb, 0, none⟩) 1 1] w fun e w' => ∃ v', e = .returned v' ∧ SRow w' v' (ks.take i ++ key :: ks.drop i) ∧ Chg (fun k => v.ownBlock = some k) w w' ∧ (v'.ownBlock = v.ownBlock ∨ v'.ownBlock = some w.heap.size) := by
  have hlen : (ks.take i ++ key :: ks.drop i).length = ks.length + 1 := by rw [List.length_append, List.length_cons, List.length_take, List.length_drop]; omega
  have hmap : (ks.take i ++ key :: ks.drop i).map Value.string = (ks.map Value.string).take i ++ [Value.string key] ++ (ks.map Value.string).drop i := by
    rw [List.map_append, List.map_cons, List.map_take, List.map_drop, List.append_assoc, List.singleton_append]
  have h1 : ∀ u ∈ ks.map Value.string, u.oneCell' = true := fun u hu => by obtain ⟨x, _, rfl⟩ := List.mem_map.1 hu; rfl
  have h2 : ∀ u ∈ [Value.string key], u.oneCell' = true := fun u hu => by rw [List.mem_singleton.1 hu]; rfl
  unfold SRow at h ⊢
  rw [hlen, hmap]
  rcases Nat.lt_or_ge i ks.length with hlt | hge
  · obtain ⟨g, cap, rfl⟩ := own_form h (by omega)
    have hcap : ks.length ≤ cap := by
      rcases h.2 with ⟨h0, _⟩ | ⟨g', cap', cur, hv, _, _, q1, _⟩
      · cases h0
      · injection hv with _ _ q3
        exact q3 ▸ q1
    have hvg : vb ≠ g := hne g rfl
    rcases Nat.lt_or_ge ks.length cap with hr | hr
    · refine (insS_shift g ks.length cap i _ [.string key] vb w h hlt hn (by omega) h1 h2 rfl hv hvg).mono fun e w' ⟨he, ho, hc⟩ => ⟨_, he, ho, hc.mono (fun k _ e => by rw [e]; rfl), .inl rfl⟩
    · obtain rfl : cap = ks.length := by omega
      exact (insS_grow g ks.length i _ [.string key] vb w h hlt hn h1 h2 rfl hv).mono fun e w' ⟨v', he, ho, hc, hb⟩ => ⟨v', he, ho, hc.mono (fun k _ e => e.elim), .inr hb⟩
  · obtain rfl : i = ks.length := by omega
    refine (insS_end ks.length v _ [.string key] vb w h hn h2 rfl hv).mono fun e w' ⟨v', he, ho, hc, hb⟩ => ⟨v', he, ?_, hc, hb⟩
    rw [List.take_of_length_le (by simp), List.drop_of_length_le (by simp), List.append_nil]
    exact ho
theorem ins_get {α : Type} (l : List α) (x : α) (i j : Nat) (hi : i ≤ l.length) : (l.take i ++ x :: l.drop i)[j]? = if j < i then l[j]? else if j = i then some x else l[j - 1]? := by
  have hl : (l.take i).length = i := by rw [List.length_take]; omega
  by_cases h1 : j < i
  · rw [if_pos h1, List.getElem?_append_left (by omega), List.getElem?_take, if_pos h1]
  · rw [if_neg h1, List.getElem?_append_right (by omega), hl]
    by_cases h2 : j = i
    · rw [if_pos h2, h2, Nat.sub_self]; rfl
    · rw [if_neg h2, show j - i = (j - i - 1) + 1 by omega, List.getElem?_cons_succ, List.getElem?_drop]
      congr 1
      omega
/-- A row into which a tree was put. -/
theorem ORow_ins {S : Nat → Prop} {w w' : World} {v' : Value} {kids : List S25} {fss : List (List Nat)} {inner cs : List Value} {y : S25} {fp : List Nat} {i : Nat} (h4 : fss.length = kids.length) (hil : inner.length = kids.length * 5) (h5 : ∀ j (h : j < kids.length) f, fss[j]? = some f → OT w kids[j] ((inner.drop (j * 5)).take 5) f) (hy : OT w y cs fp) (hcl : cs.length = 5) (hi : i ≤ kids.length)
    (hc : Chg S w w') (hd : ∀ k ∈ fss.flatten, ¬ S k) (hdy : ∀ k ∈ fp, ¬ S k) (ho : w'.ownsRow 0 25 5 v' (kids.length + 1) (inner.take (i * 5) ++ cs ++ inner.drop (i * 5))) : ORow w' v' (kids.take i ++ y :: kids.drop i) (fss.take i ++ fp :: fss.drop i) := by
  have hlen : (kids.take i ++ y :: kids.drop i).length = kids.length + 1 := by rw [List.length_append, List.length_cons, List.length_take, List.length_drop]; omega
  have htl : (inner.take (i * 5)).length = i * 5 := by rw [List.length_take]; omega
  refine ⟨_, by rw [hlen]; exact ho, by rw [hlen, List.length_append, List.length_cons, List.length_take, List.length_drop]; omega, fun j hj f hf => ?_⟩
  rw [ins_get _ _ _ _ (by omega)] at hf
  have hk : (kids.take i ++ y :: kids.drop i)[j]? = some (kids.take i ++ y :: kids.drop i)[j] := List.getElem?_eq_getElem hj
  rw [ins_get _ _ _ _ hi] at hk
  by_cases hlt : j < i
  · rw [if_pos hlt] at hf hk
    have e : ((inner.take (i * 5) ++ cs ++ inner.drop (i * 5)).drop (j * 5)).take 5 = (inner.drop (j * 5)).take 5 := by
      rw [List.append_assoc, List.drop_append_of_le_length (by omega), List.take_append_of_le_length (by rw [List.length_drop]; omega), List.drop_take, List.take_take, Nat.min_eq_left (by omega)]
    obtain ⟨hj2, e2⟩ := List.getElem?_eq_some_iff.1 hk
    rw [e, ← e2]
    exact OT_chg hc _ _ _ (h5 j hj2 f hf) (fun k hk => hd k (mem_flat hf hk))
  · rw [if_neg hlt] at hf hk
    by_cases he : j = i
    · rw [if_pos he] at hf hk
      obtain rfl := Option.some.inj hf
      have e : ((inner.take (i * 5) ++ cs ++ inner.drop (i * 5)).drop (j * 5)).take 5 = cs := by
        rw [he, List.append_assoc, List.drop_left' htl, List.take_left' hcl]
      rw [e, ← Option.some.inj hk]
      exact OT_chg hc _ _ _ hy (fun k hk => hdy k hk)
    · rw [if_neg he] at hf hk
      have e : ((inner.take (i * 5) ++ cs ++ inner.drop (i * 5)).drop (j * 5)).take 5 = (inner.drop ((j - 1) * 5)).take 5 := by
        rw [List.drop_append, List.drop_of_length_le (l := inner.take (i * 5) ++ cs) (by rw [List.length_append, htl, hcl]; omega), List.nil_append, List.drop_drop, List.length_append, htl, hcl]
        congr 2
        omega
      obtain ⟨hj2, e2⟩ := List.getElem?_eq_some_iff.1 hk
      rw [e, ← e2]
      exact OT_chg hc _ _ _ (h5 (j - 1) hj2 f hf) (fun k hk => hd k (mem_flat hf hk))
/-- A tree more. -/
theorem insN_row (v : Value) (kids : List S25) (fss : List (List Nat)) (y : S25) (cs : List Value) (fp : List Nat) (i vb : Nat) (w : World) (h : ORow w v kids fss) (hd : ∀ k ∈ fss.flatten, v.ownBlock ≠ some k) (hy : OT w y cs fp) (hdy : ∀ k ∈ fp, v.ownBlock ≠ some k) (hi : i ≤ kids.length) (hn : kids.length ≤ 1099511627776)
    (hv : w.heap[vb]? = some (.cells cs.toArray 25 (0, 0))) (hne : ∀ k, v.ownBlock = some k → vb ≠ k) :
    Calls Try.prog 102 #[v, .int .i64 i, .slice (some ⟨vb, 0, none⟩) 1 1] w fun e w' => ∃ v', e = .returned v' ∧ ORow w' v' (kids.take i ++ y :: kids.drop i) (fss.take i ++ fp :: fss.drop i) ∧ Chg (fun k => v.ownBlock = some k) w w' ∧ (v'.ownBlock = v.ownBlock ∨ v'.ownBlock = some w.heap.size) := by
  obtain ⟨inner, h3, h4, h5⟩ := h
  obtain ⟨hcl, hc1⟩ := ot_one hy
  have h1 := row_one h3 h4 h5
  have hlen : (kids.take i ++ y :: kids.drop i).length = kids.length + 1 := by rw [List.length_append, List.length_cons, List.length_take, List.length_drop]; omega
  have hil : inner.length = kids.length * 5 := h3.1
  have close : ∀ (v' : Value) (w' : World), w'.ownsRow 0 25 5 v' (kids.length + 1) (inner.take (i * 5) ++ cs ++ inner.drop (i * 5)) → Chg (fun k => v.ownBlock = some k) w w' → ORow w' v' (kids.take i ++ y :: kids.drop i) (fss.take i ++ fp :: fss.drop i) := by
    intro v' w' ho hc
    exact ORow_ins h4 hil h5 hy hcl hi hc (fun k hk e => hd k hk e) (fun k hk e => hdy k hk e) ho
  have hv' : w.heap[vb]? = some (.cells cs.toArray 25 (0, 0)) := hv
  rcases Nat.lt_or_ge i kids.length with hlt | hge
  · obtain ⟨g, cap, rfl⟩ := own_form h3 (by omega)
    have hcap : kids.length ≤ cap := by
      rcases h3.2 with ⟨h0, _⟩ | ⟨g', cap', cur, hv, _, _, q1, _⟩
      · cases h0
      · injection hv with _ _ q3
        exact q3 ▸ q1
    have hvg : vb ≠ g := hne g rfl
    rcases Nat.lt_or_ge kids.length cap with hr | hr
    · refine (insN_shift g kids.length cap i _ cs vb w h3 hlt hn (by omega) h1 hc1 hcl hv hvg).mono fun e w' ⟨he, ho, hc⟩ => ?_
      have hc2 : Chg (fun k => (Value.slice (some ⟨g, 0, none⟩) kids.length cap).ownBlock = some k) w w' := hc.mono (fun k _ e => by rw [e]; rfl)
      exact ⟨_, he, close _ _ ho hc2, hc2, .inl rfl⟩
    · obtain rfl : cap = kids.length := by omega
      refine (insN_grow g kids.length i _ cs vb w h3 hlt hn h1 hc1 hcl hv).mono fun e w' ⟨v', he, ho, hc, hb⟩ => ?_
      have hc2 : Chg (fun k => (Value.slice (some ⟨g, 0, none⟩) kids.length kids.length).ownBlock = some k) w w' := hc.mono (fun k _ e => e.elim)
      exact ⟨v', he, close _ _ ho hc2, hc2, .inr hb⟩
  · obtain rfl : i = kids.length := by omega
    refine (insN_end kids.length v _ cs vb w h3 hn hc1 hcl hv).mono fun e w' ⟨v', he, ho, hc, hb⟩ => ⟨v', he, close _ _ ?_ hc, hc, hb⟩
    rw [List.take_of_length_le (by omega), List.drop_of_length_le (by omega), List.append_nil]
    exact ho
/-- What Set leaves. -/
noncomputable def setV (x : S25) (key : ByteArray) (y : S25) : S25 :=
  if x.f0 = 5 ∧ x.f3.length = x.f4.length then (match kAt x.f3 key with
    | some i => ⟨x.f0, x.f1, x.f2, x.f3, x.f4.set i y⟩
    | none => ⟨x.f0, x.f1, x.f2, x.f3.take (insAt x.f3 key) ++ key :: x.f3.drop (insAt x.f3 key), x.f4.take (insAt x.f3 key) ++ y :: x.f4.drop (insAt x.f3 key)⟩) else x
theorem mem_own' {b : Option Nat} {k : Nat} (h : k ∈ b.toList) : b = some k := by cases b <;> simp_all
theorem nd3 {a b : Option Nat} {F : List Nat} (h1 : ∀ k, a = some k → b ≠ some k) (h2 : ∀ k, a = some k → k ∉ F) (h3 : ∀ k, b = some k → k ∉ F) (h4 : F.Nodup) : (a.toList ++ (b.toList ++ F)).Nodup := by
  have hb : (b.toList ++ F).Nodup := by
    cases b with
    | none => simpa using h4
    | some j => simpa using ⟨h3 j rfl, h4⟩
  cases a with
  | none => simpa using hb
  | some i =>
    refine List.nodup_cons.2 ⟨fun hm => ?_, hb⟩
    have hm2 : i ∈ b.toList ++ F := hm
    rcases List.mem_append.1 hm2 with hm3 | hm3
    · exact h1 i rfl (mem_own' hm3)
    · exact h2 i rfl hm3
theorem nd3_inv {a b : Option Nat} {F : List Nat} (h : (a.toList ++ (b.toList ++ F)).Nodup) : (∀ k, a = some k → b ≠ some k) ∧ (∀ k, a = some k → k ∉ F) ∧ (∀ k, b = some k → k ∉ F) ∧ F.Nodup := by
  obtain ⟨_, h2, h3⟩ := List.nodup_append.1 h
  obtain ⟨_, h4, h5⟩ := List.nodup_append.1 h2
  refine ⟨fun k hk e => h3 k (by simp [hk]) k (by simp [e]) rfl, fun k hk hm => h3 k (by simp [hk]) k (by simp [hm]) rfl, fun k hk hm => h5 k (by simp [hk]) k hm rfl, h4⟩
theorem nodup_mid {A C F : List Nat} (h : (A ++ C).Nodup) (hF : F.Nodup) (hd : ∀ k ∈ F, k ∉ A ++ C) : (A ++ (F ++ C)).Nodup := by
  have hp : (A ++ (F ++ C)).Perm (F ++ (A ++ C)) := by
    rw [← List.append_assoc, ← List.append_assoc]
    exact List.Perm.append_right _ List.perm_append_comm
  rw [hp.nodup_iff]
  exact List.nodup_append.2 ⟨hF, h, fun a ha b hb e => hd a ha (e ▸ hb)⟩
theorem ins_flat (fss : List (List Nat)) (fp : List Nat) (p : Nat) : (fss.take p ++ fp :: fss.drop p).flatten = (fss.take p).flatten ++ (fp ++ (fss.drop p).flatten) := by rw [List.flatten_append, List.flatten_cons]
theorem flat_split (fss : List (List Nat)) (p : Nat) : fss.flatten = (fss.take p).flatten ++ (fss.drop p).flatten := by rw [← List.flatten_append, List.take_append_drop]
theorem ins_nodup {fss : List (List Nat)} {fp : List Nat} (p : Nat) (h : fss.flatten.Nodup) (hF : fp.Nodup) (hd : ∀ k ∈ fp, k ∉ fss.flatten) : (fss.take p ++ fp :: fss.drop p).flatten.Nodup := by
  rw [ins_flat]
  rw [flat_split fss p] at h hd
  exact nodup_mid h hF hd
theorem ins_mem {fss : List (List Nat)} {fp : List Nat} {p k : Nat} (h : k ∈ (fss.take p ++ fp :: fss.drop p).flatten) : k ∈ fss.flatten ∨ k ∈ fp := by
  rw [ins_flat] at h
  rw [flat_split fss p]
  simp only [List.mem_append] at h ⊢
  rcases h with h | h | h
  · exact .inl (.inl h)
  · exact .inr h
  · exact .inl (.inr h)
theorem set_flat (fss : List (List Nat)) (fp : List Nat) (i : Nat) (hi : i < fss.length) : (fss.set i fp).flatten = (fss.take i).flatten ++ (fp ++ (fss.drop (i + 1)).flatten) := by
  rw [List.set_eq_take_append_cons_drop, if_pos hi, List.flatten_append, List.flatten_cons]
theorem cut_sub (fss : List (List Nat)) (i : Nat) : ((fss.take i).flatten ++ (fss.drop (i + 1)).flatten).Sublist fss.flatten := by
  have h := flat_erase fss i
  rwa [List.eraseIdx_eq_take_drop_succ, List.flatten_append] at h
theorem set_nodup {fss : List (List Nat)} {fp : List Nat} (i : Nat) (hi : i < fss.length) (h : fss.flatten.Nodup) (hF : fp.Nodup) (hd : ∀ k ∈ fp, k ∉ fss.flatten) : (fss.set i fp).flatten.Nodup := by
  rw [set_flat _ _ _ hi]
  exact nodup_mid (h.sublist (cut_sub fss i)) hF (fun k hk hm => hd k hk ((cut_sub fss i).subset hm))
theorem set_mem {fss : List (List Nat)} {fp : List Nat} {i k : Nat} (hi : i < fss.length) (h : k ∈ (fss.set i fp).flatten) : k ∈ fss.flatten ∨ k ∈ fp := by
  rw [set_flat _ _ _ hi] at h
  simp only [List.mem_append] at h
  rcases h with h | h | h
  · exact .inl ((cut_sub fss i).subset (List.mem_append.2 (.inl h)))
  · exact .inr h
  · exact .inl ((cut_sub fss i).subset (List.mem_append.2 (.inr h)))
/-- A tree put in another's place. -/
theorem ORow_put {w : World} {g n d i : Nat} {kids : List S25} {fss : List (List Nat)} {y : S25} {u0 u1 u2 u3 u4 : Value} {fp : List Nat} (h : ORow w (.slice (some ⟨g, 0, none⟩) n d) kids fss) (hi : i < kids.length) (hd : ∀ k ∈ fss.flatten, ¬ k = g) (hy : OT w y [u0, u1, u2, u3, u4] fp) (hdy : ∀ k ∈ fp, ¬ k = g) :
    ORow (((((w.setCell ⟨g, i * 5, none⟩ u0).setCell ⟨g, i * 5 + 1, none⟩ u1).setCell ⟨g, i * 5 + 2, none⟩ u2).setCell ⟨g, i * 5 + 3, none⟩ u3).setCell ⟨g, i * 5 + 4, none⟩ u4) (.slice (some ⟨g, 0, none⟩) n d) (kids.set i y) (fss.set i fp) := by
  obtain ⟨inner, h3, h4, h5⟩ := h
  have hil : inner.length = kids.length * 5 := h3.1
  have hn : n = kids.length := by
    rcases h3.2 with ⟨h0, _⟩ | ⟨g', cap', cur, hv, _⟩
    · cases h0
    · injection hv
  subst hn
  have hc := chg_set5 (S := fun k => k = g) w g i u0 u1 u2 u3 u4 rfl
  refine ⟨set5 inner i u0 u1 u2 u3 u4, by rw [List.length_set]; exact own_set5 h3 (by omega) u0 u1 u2 u3 u4, by rw [List.length_set, List.length_set, h4], fun j hj f hf => ?_⟩
  rw [List.length_set] at hj
  by_cases e : i = j
  · subst e
    rw [List.getElem?_set_self (by omega)] at hf
    obtain rfl := Option.some.inj hf
    rw [set5_same hil hj, List.getElem_set_self]
    exact OT_chg hc _ _ _ hy (fun k hk => hdy k hk)
  · rw [List.getElem?_set_ne e] at hf
    rw [set5_other e, List.getElem_set_ne e]
    exact OT_chg hc _ _ _ (h5 j hj f hf) (fun k hk => hd k (mem_flat hf hk))
theorem insAt_stop {l : List ByteArray} {key : ByteArray} {p : Nat} (hn : kAt l key = none) (h1 : ∀ j, j < p → Op.bytesLess (l.getD j ByteArray.empty).toList key.toList = true) (hp : p ≤ l.length) (h2 : p < l.length → Op.bytesLess (l.getD p ByteArray.empty).toList key.toList = false) : insAt l key = p := by
  have hne := kAt_none hn
  have hab : ∀ j (hj : j < l.length), aboveB key l[j] = !Op.bytesLess (l.getD j ByteArray.empty).toList key.toList := fun j hj => by
    have e : (l[j].toList == key.toList) = false := by
      have := hne j hj
      rw [getD_at _ _ hj] at this
      simpa [tlb] using this
    unfold aboveB
    rw [e, Bool.or_false, getD_at _ _ hj]
  unfold insAt
  rcases Nat.lt_or_ge p l.length with hlt | hge
  · rw [List.findIdx_eq hlt]
    refine ⟨by rw [hab p hlt, h2 hlt]; rfl, fun j hj => by rw [hab j (by omega), h1 j hj]; rfl⟩
  · obtain rfl : p = l.length := by omega
    rw [List.findIdx_eq_length]
    intro x hx
    obtain ⟨j, hj, rfl⟩ := List.getElem_of_mem hx
    rw [hab j hj, h1 j hj]
    rfl
section
variable {P : Program} {ops : Array Oper} {rest : List Oper} {o : Oper} {a : Act} {Q : Exit → Act → World → Prop}
/-- One cell, stored into a block of its own. -/
theorem store1_event {W : World} (hgd : o.guard = none) {t : TypeId} {p : Tmp} {v : Operand} (_ho : o.op = .store t (.tmp p) v) (hN : o.dst = none) {g j : Nat} {T : TypeId} {cs cs' : Array Value} (u : Value)
    (bk : W.heap[g]? = some (.cells cs T (0, 0))) (hcs : cs.setIfInBounds j u = cs') (hrun : (execOp a.eval o).run P W = .ok .skip (W.setCell ⟨g, j, none⟩ u))
    (h : ∀ w', w'.heap[g]? = some (.cells cs' T (0, 0)) → Chg (fun k => k = g) W w' → wpList P ops Q rest a w') : wpList P ops Q (o :: rest) a W :=
  store_event hgd _ho hN hrun (fun w' e => h w' (e ▸ blk_put bk j u hcs) (e ▸ chg_put W g j u))
end
end Go.Proofs.Ytnbnpgjgibcmpaa.H
