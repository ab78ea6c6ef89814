/- The text of a mark, with rounds enough. -/
import Derived.Test.YtdlhidjphaaklaaAid
import Derived.Test.YtdlhidjphaaklaaEv
import Derived.Test.YtdlhidjphaaklaaMark
import Derived.Test.YtdlhidjphaaklaaOwn
import Derived.Test.YtdlhidjphaaklaaP_laws_eqNote
namespace Go.Proofs.Ytdlhidjphaaklaa.H
open Go.RowKit Go.Proofs.Ytdlhidjphaaklaa.P Go.Proofs.YtdlhidjphaaklaaW.PrintWords Go.Proofs.Ytdlhidjphaaklaa.M

theorem mt_ev {n : Int} (h : n ≤ 4611686018427387904) : Ev (fun k => laws_markText.f k n) (mt n) := by
  obtain ⟨k, hk⟩ := mt_is h
  exact Ev.of (fun k => laws_markText.mono _ k) hk
end Go.Proofs.Ytdlhidjphaaklaa.H
