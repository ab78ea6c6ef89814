/- Get, ListOf: what is made, in the print's words. -/
import Derived.Test.YtdlhidjphaaklaaAid
import Derived.Test.YtdlhidjphaaklaaBase
import Derived.Test.YtdlhidjphaaklaaCopy
import Derived.Test.YtdlhidjphaaklaaGet
import Derived.Test.YtdlhidjphaaklaaLists
import Derived.Test.YtdlhidjphaaklaaMark
import Derived.Test.YtdlhidjphaaklaaOut
import Derived.Test.YtdlhidjphaaklaaOwn
namespace Go.Proofs.Ytdlhidjphaaklaa.H
open Go.RowKit Go.Proofs.Ytdlhidjphaaklaa.P Go.Proofs.YtdlhidjphaaklaaW.PrintWords Go.Proofs.Ytdlhidjphaaklaa.M
set_option linter.unusedVariables false

theorem Top_R {w w' : World} {v3 v4 : Value} {x : S33} {fss : List (List Nat)} (ht : Top w' v3 v4 x fss) (hf : ∀ k ∈ topFp v3 v4 fss, w.heap.size ≤ k) : Kd.R Kd.string 9 w' w.heap.size (fun _ => True) v3 x.f3 ∧ Kd.R k33 33 w' w.heap.size (fun k_ => some k_ ≠ (v3 : Value).ownBlock) v4 x.f4 := by
  obtain ⟨_, hn4, hn34⟩ := List.nodup_append.1 ht.2.2
  exact ⟨SRow_R ht.1 (fun k e => ⟨hf k (by simp [topFp, e]), trivial⟩), ORow_R ht.2.1 hn4 (fun k hk => ⟨hf k (List.mem_append.2 (.inr hk)), fun e => hn34 k (by simp [← e]) k hk rfl⟩)⟩
theorem Made2_R {w w' : World} {x : S33} {b : Bool} {e : Ending} (h : ∃ v3 v4 fss, e = .returned (.tuple #[.agg #[.int .i64 x.f0, .int .i64 x.f1, .string x.f2, v3, v4], .bool b]) ∧ Top w' v3 v4 x fss ∧ (∀ k ∈ topFp v3 v4 fss, w.heap.size ≤ k) ∧ Below w.heap.size w w') :
    ∃ v3_ v4_ : Value, e = .returned (.tuple #[.agg #[.int .i64 x.f0, .int .i64 x.f1, .string x.f2, v3_, v4_], .bool b]) ∧ Kd.R Kd.string 9 w' w.heap.size (fun _ => True) v3_ x.f3 ∧ Kd.R k33 33 w' w.heap.size (fun k_ => some k_ ≠ (v3_ : Value).ownBlock) v4_ x.f4 ∧ Below w.heap.size w w' := by
  obtain ⟨v3, v4, fss, rfl, ht, hf, hb⟩ := h
  obtain ⟨h3, h4⟩ := Top_R ht hf
  exact ⟨v3, v4, rfl, h3, h4, hb⟩
theorem cnt_list {l : List S33} (h : cntTop (⟨4, 0, ⟨#[]⟩, [], l⟩ : S33) ≤ 1099511627776) : (l.map cntK).sum ≤ 1099511627776 := by
  unfold cntTop at h
  simpa using h
end Go.Proofs.Ytdlhidjphaaklaa.H
