/- NotesOf of both sides: the row of notes that it makes. -/
import Derived.Test.YtdlhidjphaaklaaAid
import Derived.Test.YtdlhidjphaaklaaBase
import Derived.Test.YtdlhidjphaaklaaCopy
import Derived.Test.YtdlhidjphaaklaaEv
import Derived.Test.YtdlhidjphaaklaaLists
import Derived.Test.YtdlhidjphaaklaaMark
import Derived.Test.YtdlhidjphaaklaaNotesOf
import Derived.Test.YtdlhidjphaaklaaOwn
import Derived.Test.YtdlhidjphaaklaaP_impl_NotesOf
import Derived.Test.YtdlhidjphaaklaaP_spec_NotesOf
import Derived.Test.YtdlhidjphaaklaaRowNote
import Derived.Test.YtdlhidjphaaklaaTok
namespace Go.Proofs.Ytdlhidjphaaklaa.H
open Go.RowKit Go.Proofs.Ytdlhidjphaaklaa.P Go.Proofs.YtdlhidjphaaklaaW.PrintWords Go.Proofs.Ytdlhidjphaaklaa.M
set_option linter.unusedVariables false

/-- A row and a text, the row newly made. -/
def RowMade (w : World) (z : List S66) (s : ByteArray) (e : Ending) (w' : World) : Prop := ∃ (v : Value) (b c : Nat), w.heap.size = b ∧ w'.heap.size = c ∧ e = .returned (.tuple #[v, .string s]) ∧ RowB w' b c v z ∧ Below w.heap.size w w'
theorem notesE_spec (x : S33) (hc : cntTop x ≤ 1099511627776) (ht : totK x ≤ 1048576) (w : World) (v3 v4 : Value) (hs : Seen w v3 v4 x) :
    Calls Try.prog 11 #[.agg #[.int .i64 x.f0, .int .i64 x.f1, .string x.f2, v3, v4]] w fun e w' => RowMade w (notesE x).1 (notesE x).2 e w' := by
  obtain ⟨A3, c3, A4, c4, rfl, rfl, g3, l3, g4, l4⟩ := hs
  obtain ⟨k, hk⟩ := (spec_notes_ev x hc ht).rounds
  refine (spec_NotesOf.calls k _ _ _ _ _ _ _ _ _ _ _ w g3 l3 g4 l4 hk).mono ?_
  rintro e w' ⟨v, rfl, hr, hb⟩
  exact ⟨v, _, _, rfl, rfl, rfl, RowB.of hr, hb⟩
theorem notesE_impl (x : S33) (hc : cntTop x ≤ 1099511627776) (ht : totK x ≤ 1048576) (w : World) (v3 v4 : Value) (hs : Seen w v3 v4 x) :
    Calls Try.prog 12 #[.agg #[.int .i64 x.f0, .int .i64 x.f1, .string x.f2, v3, v4]] w fun e w' => RowMade w (notesE x).1 (notesE x).2 e w' := by
  obtain ⟨A3, c3, A4, c4, rfl, rfl, g3, l3, g4, l4⟩ := hs
  obtain ⟨k, hk⟩ := (impl_notes_ev x hc ht).rounds
  refine (impl_NotesOf.calls k _ _ _ _ _ _ _ _ _ _ _ w g3 l3 g4 l4 hk).mono ?_
  rintro e w' ⟨v, rfl, hr, hb⟩
  exact ⟨v, _, _, rfl, rfl, rfl, RowB.of hr, hb⟩
theorem notesG_len (x : S33) : ∀ d i out, (notesG x d i out).1.length ≤ out.length + d
  | 0, i, out => by simp [notesG]
  | d + 1, i, out => by
    unfold notesG
    split
    · have := notesG_len x d (i + 1) (out ++ [⟨x.f3.getD i ByteArray.empty, (x.f4.getD i z33).f2⟩])
      rw [List.length_append] at this
      simp only [List.length_cons, List.length_nil] at this
      omega
    · simp
theorem notesE_len (x : S33) (hc : cntTop x ≤ 1048576 * 4) : (notesE x).1.length ≤ 4194304 := by
  have h3 : x.f3.length ≤ 4194304 := by unfold cntTop at hc; omega
  unfold notesE
  split
  · have := notesG_len x x.f3.length 0 []
    simp at this
    omega
  · simp
end Go.Proofs.Ytdlhidjphaaklaa.H
