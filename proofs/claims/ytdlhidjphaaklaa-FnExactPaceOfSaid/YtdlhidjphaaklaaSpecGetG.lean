/- The reference's Get finds what the program's finds. -/
import Derived.Test.YtdlhidjphaaklaaAid
import Derived.Test.YtdlhidjphaaklaaBase
import Derived.Test.YtdlhidjphaaklaaCopy
import Derived.Test.YtdlhidjphaaklaaEv
import Derived.Test.YtdlhidjphaaklaaGet
import Derived.Test.YtdlhidjphaaklaaLists
import Derived.Test.YtdlhidjphaaklaaMark
import Derived.Test.YtdlhidjphaaklaaOwn
import Derived.Test.YtdlhidjphaaklaaP_spec_Get
import Derived.Test.YtdlhidjphaaklaaP_spec_l3Copy
import Derived.Test.YtdlhidjphaaklaaP_spec_l7In
import Derived.Test.YtdlhidjphaaklaaSpecAt
namespace Go.Proofs.Ytdlhidjphaaklaa.H
open Go.RowKit Go.Proofs.Ytdlhidjphaaklaa.P Go.Proofs.YtdlhidjphaaklaaW.PrintWords Go.Proofs.Ytdlhidjphaaklaa.M
set_option linter.unusedVariables false

theorem specGet_ev (x : S33) (key : ByteArray) (hc : cntTop x ≤ 1099511627776) : Ev (fun k => spec_Get.f k x.f0 x.f1 x.f2 x.f3 x.f4 key) ((getV x key).f0, (getV x key).f1, (getV x key).f2, (getV x key).f3, (getV x key).f4, (getK x key).isSome) := by
  have h3 : x.f3.length ≤ 1099511627776 := by unfold cntTop at hc; omega
  have hl := len_cnt x.f4
  unfold spec_Get.f getV
  refine Ev.bind (l3At_ev x key h3) ?_
  rcases atI_get x key with ⟨e1, e2⟩ | ⟨i, hi, hi3, e1, e2, _, _⟩
  · rw [e1, e2]
    exact Ev.congr (fun k => if_pos (by decide)) (Ev.now _)
  · rw [e1, e2]
    refine Ev.congr (fun k => if_neg (by omega)) ?_
    refine Ev.congr (fun k => if_pos (by omega)) ?_
    refine Ev.congr (fun k => if_pos (by omega)) ?_
    rw [rdT2 x.f4 i hi]
    have hcn : cntTop x.f4[i] ≤ 1099511627776 := by
      have h1 := mem_le_sum cntK x.f4 x.f4[i] (List.getElem_mem hi)
      have h2 := cntK_eq x.f4[i]
      unfold cntTop at hc ⊢
      omega
    refine Ev.bind (a := (x.f4[i].f0, x.f4[i].f1, x.f4[i].f2, x.f4[i].f3, x.f4[i].f4)) ⟨0, fun k _ => by unfold spec_l3Copy.f; rw [node_eta]; exact if_pos hcn⟩ ?_
    exact Ev.now _
end Go.Proofs.Ytdlhidjphaaklaa.H
