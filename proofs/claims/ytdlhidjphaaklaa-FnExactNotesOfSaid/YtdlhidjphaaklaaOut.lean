/- A tree of one's own, in the print's words. -/
import Derived.Test.YtdlhidjphaaklaaAid
import Derived.Test.YtdlhidjphaaklaaBase
import Derived.Test.YtdlhidjphaaklaaCopy
import Derived.Test.YtdlhidjphaaklaaLists
import Derived.Test.YtdlhidjphaaklaaMark
import Derived.Test.YtdlhidjphaaklaaOwn
namespace Go.Proofs.Ytdlhidjphaaklaa.H
open Go.RowKit Go.Proofs.Ytdlhidjphaaklaa.P Go.Proofs.YtdlhidjphaaklaaW.PrintWords Go.Proofs.Ytdlhidjphaaklaa.M
set_option linter.unusedVariables false

theorem own_raise {w : World} {b e s n : Nat} {v : Value} {xs : List Value} (h : w.ownsRow 0 e s v n xs) (hb : ∀ k, v.ownBlock = some k → b ≤ k) : w.ownsRow b e s v n xs := by
  obtain ⟨hl, h2⟩ := h
  rcases h2 with h0 | ⟨g, cap, cur, rfl, _, r⟩
  · exact ⟨hl, .inl h0⟩
  · exact ⟨hl, .inr ⟨g, cap, cur, rfl, hb g rfl, r⟩⟩
theorem SRow_R {w : World} {v : Value} {xs : List ByteArray} {base : Nat} {ok : Nat → Prop} (h : SRow w v xs) (hk : ∀ k, v.ownBlock = some k → base ≤ k ∧ ok k) : Kd.R Kd.string 9 w base ok v xs := by
  refine ⟨fun k e => (hk k e).2, xs.map Value.string, own_raise h (fun k e => (hk k e).1), by simp [Kd.string, Kd.scalar], fun j x hj => ?_⟩
  obtain ⟨hj2, rfl⟩ := List.getElem?_eq_some_iff.1 hj
  show (((xs.map Value.string).drop (j * 1)).take 1) = [Value.string xs[j]]
  rw [Nat.mul_one, List.drop_eq_getElem_cons (by simpa using hj2), List.getElem_map]
  rfl
theorem OT_M (x : S33) : ∀ (w : World) (base : Nat) (ok : Nat → Prop) (cs : List Value) (fp : List Nat), OT w x cs fp → fp.Nodup → (∀ k ∈ fp, base ≤ k ∧ ok k) → k33.M w base ok x cs := by
  refine tree_ind (P := fun x => ∀ (w : World) (base : Nat) (ok : Nat → Prop) (cs : List Value) (fp : List Nat), OT w x cs fp → fp.Nodup → (∀ k ∈ fp, base ≤ k ∧ ok k) → k33.M w base ok x cs) (fun x ih w base ok cs fp h hn hk => ?_) x
  rw [OT_iff] at h
  obtain ⟨v3, v4, fss, rfl, h2, ⟨inner, h3, h4, h5⟩, rfl⟩ := h
  have hn4 := (List.nodup_append.1 hn).2.1
  have hk4 : ∀ k, v4.ownBlock = some k → base ≤ k ∧ ok k := fun k e => hk k (by simp [e])
  refine k33_mkM w base ok x (SRow_R h2 (fun k e => hk k (by simp [e]))) ⟨fun k e => (hk4 k e).2, inner, own_raise h3 (fun k e => (hk4 k e).1), h3.1, fun j y hj => ?_⟩
  obtain ⟨hj2, rfl⟩ := List.getElem?_eq_some_iff.1 hj
  have hf : fss[j]? = some fss[j] := List.getElem?_eq_getElem (by omega)
  refine ih _ (List.getElem_mem hj2) w base _ _ fss[j] (h5 j hj2 _ hf) (nd_flat (List.nodup_append.1 hn4).2.1 hf) (fun k hkm => ?_)
  have hm : k ∈ v3.ownBlock.toList ++ (v4.ownBlock.toList ++ fss.flatten) := by
    simp only [List.mem_append]
    exact .inr (.inr (mem_flat hf hkm))
  exact ⟨(hk k hm).1, (hk k hm).2, fun e => (List.nodup_append.1 hn4).2.2 k (by simp [← e]) k (mem_flat hf hkm) rfl⟩
theorem ORow_R {w : World} {v : Value} {kids : List S33} {fss : List (List Nat)} {base : Nat} {ok : Nat → Prop} (h : ORow w v kids fss) (hn : (v.ownBlock.toList ++ fss.flatten).Nodup) (hk : ∀ k ∈ v.ownBlock.toList ++ fss.flatten, base ≤ k ∧ ok k) : Kd.R k33 33 w base ok v kids := by
  obtain ⟨inner, h3, h4, h5⟩ := h
  have hk4 : ∀ k, v.ownBlock = some k → base ≤ k ∧ ok k := fun k e => hk k (by simp [e])
  refine ⟨fun k e => (hk4 k e).2, inner, own_raise h3 (fun k e => (hk4 k e).1), h3.1, fun j y hj => ?_⟩
  obtain ⟨hj2, rfl⟩ := List.getElem?_eq_some_iff.1 hj
  have hf : fss[j]? = some fss[j] := List.getElem?_eq_getElem (by omega)
  refine OT_M _ w base _ _ fss[j] (h5 j hj2 _ hf) (nd_flat (List.nodup_append.1 hn).2.1 hf) (fun k hkm => ?_)
  have hm : k ∈ v.ownBlock.toList ++ fss.flatten := List.mem_append.2 (.inr (mem_flat hf hkm))
  exact ⟨(hk k hm).1, (hk k hm).2, fun e => (List.nodup_append.1 hn).2.2 k (by simp [← e]) k (mem_flat hf hkm) rfl⟩
/-- What is made, in the form of the print's contracts. -/
theorem Made_R {w w' : World} {x : S33} {e : Ending} (h : Made w x e w') : ∃ v3_ v4_ : Value, e = .returned (.agg #[.int .i64 x.f0, .int .i64 x.f1, .string x.f2, v3_, v4_]) ∧ Kd.R Kd.string 9 w' w.heap.size (fun _ => True) v3_ x.f3 ∧ Kd.R k33 33 w' w.heap.size (fun k_ => some k_ ≠ (v3_ : Value).ownBlock) v4_ x.f4 ∧ Below w.heap.size w w' := by
  obtain ⟨v3, v4, fss, rfl, ht, hf, hb⟩ := h
  obtain ⟨_, hn4, hn34⟩ := List.nodup_append.1 ht.2.2
  refine ⟨v3, v4, rfl, SRow_R ht.1 (fun k e => ⟨hf k (by simp [topFp, e]), trivial⟩), ORow_R ht.2.1 hn4 (fun k hk => ⟨hf k (List.mem_append.2 (.inr hk)), fun e => hn34 k (by simp [← e]) k hk rfl⟩), hb⟩
end Go.Proofs.Ytdlhidjphaaklaa.H
