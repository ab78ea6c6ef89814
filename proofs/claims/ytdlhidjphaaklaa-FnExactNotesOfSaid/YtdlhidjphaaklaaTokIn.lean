/- Trees that come in, told without counting rounds. -/
import Derived.Test.YtdlhidjphaaklaaAid
import Derived.Test.YtdlhidjphaaklaaEv
import Derived.Test.YtdlhidjphaaklaaLists
import Derived.Test.YtdlhidjphaaklaaTok
import Derived.Test.YtdlhidjphaaklaaTree
import Derived.Test.YtdlhidjphaaklaaTreeIn
namespace Go.Proofs.Ytdlhidjphaaklaa.M
open Go.RowKit Go.Proofs.Ytdlhidjphaaklaa.P Go.Proofs.Ytdlhidjphaaklaa.O Go.Proofs.YtdlhidjphaaklaaW.PrintWords

theorem totK_toT : ∀ (n : Nat) (a : S25), goodN25 n a → totK (toT a) = totT a
  | 0, _, h => h.elim
  | n + 1, a, h => by
    rw [totK_eq, totT_eq, toT_eq]
    simp only [List.length_map, List.map_map]
    have : a.f4.map (totK ∘ toT) = a.f4.map totT := List.map_congr_left (fun x hx => totK_toT n x (h.2.2.2.2.2 x hx))
    rw [this]
theorem sz_ev (n : Nat) (a : S25) (h : goodN25 n a) (left : Int) (h0 : 0 ≤ left) (h1 : left ≤ 1048576) : Ev (fun k => laws_szNode.f k a.f0 a.f1 a.f2 a.f3 a.f4 left) (szLeft (totT a) left) :=
  Ev.past (fun k hk => szNode_eq n a h left k h0 h1 hk)
theorem to_ev (n : Nat) (a : S25) (h : goodN25 n a) (ht : totT a ≤ 1048576) : Ev (fun k => laws_toNode.f k a.f0 a.f1 a.f2 a.f3 a.f4) (a.f0, a.f1, a.f2, a.f3, a.f4.map toT) :=
  Ev.past (fun k hk => toNode_eq n a h ht k hk)
theorem same_ev (a : S25) (hr : rnd (toT a) ≤ 1099511627776) : Ev (fun k => laws_eqNode.f k a.f0 a.f1 a.f2 a.f3 (a.f4.map toT) a.f0 a.f1 a.f2 a.f3 (a.f4.map toT)) true := by
  have h : Ev (fun k => laws_eqNode.f k (toT a).f0 (toT a).f1 (toT a).f2 (toT a).f3 (toT a).f4 (toT a).f0 (toT a).f1 (toT a).f2 (toT a).f3 (toT a).f4) (dec (toT a = toT a)) :=
    Ev.past (fun k hk => eqNode_eq _ (toT a) (toT a) (Nat.le_refl _) hr k hk)
  rw [dec_true rfl, toT_eq] at h
  exact h
/-- A law over one tree whose two answers are held against each other: what the tree makes of it. -/
theorem in_ev {α : Type} {a : S25} {f : Nat → Int → Int → ByteArray → List ByteArray → List S33 → Option α} {r : α} (h : Ev (fun k => f k (toT a).f0 (toT a).f1 (toT a).f2 (toT a).f3 (toT a).f4) r) : Ev (fun k => f k a.f0 a.f1 a.f2 a.f3 (a.f4.map toT)) r := by
  rw [toT_eq] at h
  exact h
end Go.Proofs.Ytdlhidjphaaklaa.M
