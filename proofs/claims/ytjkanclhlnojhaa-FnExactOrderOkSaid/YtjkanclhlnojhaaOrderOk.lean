/- The program's OrderOk and the reference's are one function. -/
import Derived.Test.YtjkanclhlnojhaaAid
import Derived.Test.YtjkanclhlnojhaaBytes
import Derived.Test.YtjkanclhlnojhaaLists
import Derived.Test.YtjkanclhlnojhaaOrder
import Derived.Test.YtjkanclhlnojhaaP_impl_OrderOk
import Derived.Test.YtjkanclhlnojhaaP_impl_notesOk
import Derived.Test.YtjkanclhlnojhaaP_spec_MetricOk
import Derived.Test.YtjkanclhlnojhaaP_spec_OrderOk
import Derived.Test.YtjkanclhlnojhaaP_spec_PaceOk
import Derived.Test.YtjkanclhlnojhaaP_spec_l6Metrics
import Derived.Test.YtjkanclhlnojhaaP_spec_l6Notes
import Derived.Test.YtjkanclhlnojhaaShare
namespace Go.Proofs.Ytjkanclhlnojhaa.M
open Go.RowKit Go.Proofs.Ytjkanclhlnojhaa.P Go.Proofs.YtjkanclhlnojhaaW.PrintWords

def ours (s : ByteArray) : Bool := if (s.size : Int) ≥ 5 then (s.extract 0 5).toList == ([113, 117, 97, 121, 47] : List UInt8) else false
theorem l6Ours_eq (s : ByteArray) : spec_l6Ours.f s = some (ours s) := by
  unfold spec_l6Ours.f ours
  by_cases h : (s.size : Int) ≥ 5
  · rw [if_pos h, if_pos h, if_pos (by decide), if_pos (by omega)]
  · rw [if_neg h, if_neg h]
theorem quay_prefix (s : ByteArray) : strings_HasPrefix.f s (⟨#[113, 117, 97, 121, 47]⟩ : ByteArray) = some (ours s) := by
  unfold strings_HasPrefix.f stringslite_HasPrefix.f ours
  have e : ((⟨#[113, 117, 97, 121, 47]⟩ : ByteArray).size : Int) = 5 := rfl
  have e2 : (⟨#[113, 117, 97, 121, 47]⟩ : ByteArray).toList = ([113, 117, 97, 121, 47] : List UInt8) := by rw [Lib.toList_data]
  rw [e, e2]
  by_cases h : (s.size : Int) ≥ 5
  · rw [if_pos h, if_pos h, if_pos (by decide), if_pos (by omega)]; rfl
  · rw [if_neg h, if_neg h]; rfl
def metricOk (m : S35) : Bool := nameOk m.f0 && (inB m.f1 1 3 && inB m.f2 1 1000000)
theorem spec_metricOk (m : S35) (hs : m.f0.size ≤ 140737488351232) (k : Nat) (hk : m.f0.size < k) : spec_MetricOk.f k m.f0 m.f1 m.f2 = some (metricOk m) := by
  unfold spec_MetricOk.f metricOk
  rw [spec_nameOk _ hs k hk, l1In_eq, l1In_eq]
  cases nameOk m.f0 <;> cases inB m.f1 1 3 <;> simp
theorem impl_metricOk (m : S35) (hs : m.f0.size ≤ 140737488351232) (k : Nat) (hk : m.f0.size < k) : impl_MetricOk.f k m.f0 m.f1 m.f2 = some (metricOk m) := by
  unfold impl_MetricOk.f metricOk
  rw [impl_nameOk _ hs k hk, from_eq, from_eq]
  cases nameOk m.f0 <;> cases inB m.f1 1 3 <;> simp
def paceOk (a b c d : Int) : Bool := inB a 0 1000 && (inB b 0 1000 && (inB c 0 3600 && inB d 0 3600))
theorem spec_paceOk (a b c d : Int) : spec_PaceOk.f a b c d = some (paceOk a b c d) := by
  simp only [spec_PaceOk.f, l1In_eq, Option.bind_some, paceOk]
  cases inB a 0 1000 <;> cases inB b 0 1000 <;> cases inB c 0 3600 <;> cases inB d 0 3600 <;> simp
theorem impl_paceOk (a b c d : Int) : impl_PaceOk.f a b c d = some (paceOk a b c d) := by
  simp only [impl_PaceOk.f, impl_isMany.f, from_eq, Option.bind_some, paceOk]
  cases inB a 0 1000 <;> cases inB b 0 1000 <;> cases inB c 0 3600 <;> cases inB d 0 3600 <;> simp
def mStep (ms : List S35) (i : Nat) : Bool := metricOk (rd_T35 ms i) && (decide (i = 0) || Op.bytesLess ((rd_T35 ms (wrap64 ((i : Int) - 1))).f0.toList) ((rd_T35 ms i).f0.toList))
def nStep (ns : List S94) (i : Nat) : Bool := plainOk (rd_T94 ns i).f0 && (!ours (rd_T94 ns i).f0 && (textOk (rd_T94 ns i).f1 && (!decide (((rd_T94 ns i).f1.size : Int) > 40) && (decide (i = 0) || Op.bytesLess ((rd_T94 ns (wrap64 ((i : Int) - 1))).f0.toList) ((rd_T94 ns i).f0.toList)))))
def metricsOk (ms : List S35) : Bool := (List.range' 0 ms.length).all (mStep ms) && decide ((ms.length : Int) ≤ 4)
def notesOk (ns : List S94) : Bool := (List.range' 0 ns.length).all (nStep ns) && decide ((ns.length : Int) ≤ 4)
theorem spec_metrics (ms : List S35) (hl : ms.length ≤ 1048576) (hs : ∀ m ∈ ms, m.f0.size ≤ 1048576) (k : Nat) (hk : ms.length + 1048577 < k) : spec_l6Metrics.f k ms = some (metricsOk ms) := by
  unfold spec_l6Metrics.f metricsOk
  have e := scanK (g := fun k i => spec_l6Metrics.l0 k ms i) (n := ms.length) (K := 1048577) (P := mStep ms) (e := decide ((ms.length : Int) ≤ 4)) (fun k _ => by simp only [spec_l6Metrics.l0]; rw [if_neg (by omega)])
    (fun k i hk hi => by
      have er : rd_T35 ms (i : Int) = ms[i] := getD_at ms _ i hi
      simp only [spec_l6Metrics.l0]
      rw [if_pos (by omega), if_pos (by omega), spec_metricOk _ (by rw [er]; have := hs _ (List.getElem_mem hi); omega) k (by rw [er]; have := hs _ (List.getElem_mem hi); omega), Option.bind_some, wsucc (by omega)]
      unfold mStep
      cases metricOk (rd_T35 ms i)
      · simp
      · rcases Nat.eq_zero_or_pos i with rfl | h0
        · simp
        · rw [if_pos rfl, if_pos (by omega), if_pos (by rw [w64 (by omega) (by omega)]; omega), if_pos (by rw [w64 (by omega) (by omega)]; omega), decide_eq_false (by omega), Bool.true_and, Bool.false_or]) ms.length 0 k (by omega) (by omega)
  have e0 : ((0 : Nat) : Int) = 0 := rfl
  rw [e0] at e
  rw [e]
theorem spec_notes (ns : List S94) (hl : ns.length ≤ 1048576) (hs : ∀ m ∈ ns, m.f0.size ≤ 1048576 ∧ m.f1.size ≤ 1048576) (k : Nat) (hk : ns.length + 1048577 < k) : spec_l6Notes.f k ns = some (notesOk ns) := by
  unfold spec_l6Notes.f notesOk
  have e := scanK (g := fun k i => spec_l6Notes.l0 k ns i) (n := ns.length) (K := 1048577) (P := nStep ns) (e := decide ((ns.length : Int) ≤ 4)) (fun k _ => by simp only [spec_l6Notes.l0]; rw [if_neg (by omega)])
    (fun k i hk hi => by
      have er : rd_T94 ns (i : Int) = ns[i] := getD_at ns _ i hi
      have h1 := hs _ (List.getElem_mem hi)
      simp only [spec_l6Notes.l0]
      rw [if_pos (by omega), if_pos (by omega), spec_plainOk _ (by rw [er]; omega) k (by rw [er]; omega), Option.bind_some, l6Ours_eq, Option.bind_some, spec_textOk _ (by rw [er]; omega) k (by rw [er]; omega), Option.bind_some, wsucc (by omega)]
      unfold nStep
      cases plainOk (rd_T94 ns i).f0
      · simp
      cases ours (rd_T94 ns i).f0
      · cases textOk (rd_T94 ns i).f1
        · simp
        · by_cases h40 : ((rd_T94 ns i).f1.size : Int) > 40
          · simp [h40]
          · rcases Nat.eq_zero_or_pos i with rfl | h0
            · rw [if_pos rfl, if_neg (by simp), if_pos rfl, if_neg h40, if_neg (by omega), decide_eq_false h40]
              simp
            · rw [if_pos rfl, if_neg (by simp), if_pos rfl, if_neg h40, if_pos (by omega), if_pos (by rw [w64 (by omega) (by omega)]; omega), if_pos (by rw [w64 (by omega) (by omega)]; omega), decide_eq_false (by omega : ¬ i = 0), decide_eq_false h40]
              simp
      · simp) ns.length 0 k (by omega) (by omega)
  have e0 : ((0 : Nat) : Int) = 0 := rfl
  rw [e0] at e
  rw [e]
theorem impl_notes (ns : List S94) (hl : ns.length ≤ 1048576) (hs : ∀ m ∈ ns, m.f0.size ≤ 1048576 ∧ m.f1.size ≤ 1048576) (k : Nat) (hk : ns.length + 1048577 < k) : impl_notesOk.f k ns = some (notesOk ns) := by
  unfold impl_notesOk.f notesOk
  have e := scanK (g := fun k i => impl_notesOk.l0 k ns ns (ns.length : Int) i) (n := ns.length) (K := 1048577) (P := nStep ns) (e := decide ((ns.length : Int) ≤ 4)) (fun k _ => by simp only [impl_notesOk.l0]; rw [if_neg (by omega)])
    (fun k i hk hi => by
      have er : rd_T94 ns (i : Int) = ns[i] := getD_at ns _ i hi
      have h1 := hs _ (List.getElem_mem hi)
      simp only [impl_notesOk.l0]
      rw [if_pos (by omega), if_pos (by omega), if_pos (by omega), impl_plainOk _ (by rw [er]; omega) k (by rw [er]; omega), Option.bind_some, quay_prefix, Option.bind_some, impl_textOk _ (by rw [er]; omega) k (by rw [er]; omega), Option.bind_some, wsucc (by omega)]
      unfold nStep
      cases plainOk (rd_T94 ns i).f0
      · simp
      cases ours (rd_T94 ns i).f0
      · cases textOk (rd_T94 ns i).f1
        · simp
        · by_cases h40 : ((rd_T94 ns i).f1.size : Int) > 40
          · simp [h40]
          · rcases Nat.eq_zero_or_pos i with rfl | h0
            · rw [if_pos rfl, if_neg (by simp), if_pos rfl, if_neg h40, if_neg (by omega), decide_eq_false h40]
              simp
            · rw [if_pos rfl, if_neg (by simp), if_pos rfl, if_neg h40, if_pos (by omega), if_pos (by rw [w64 (by omega) (by omega)]; omega), if_pos (by rw [w64 (by omega) (by omega)]; omega), decide_eq_false (by omega : ¬ i = 0), decide_eq_false h40]
              simp
      · simp) ns.length 0 k (by omega) (by omega)
  have e0 : ((0 : Nat) : Int) = 0 := rfl
  rw [e0] at e
  rw [e]
def orderOk (n t : ByteArray) (lo hi : Int) (ms : List S35) (p0 p1 p2 p3 : Int) (ns : List S94) : Bool := nameOk n && (nameOk t && (inB lo 1 hi && (decide (hi ≤ 1000) && (metricsOk ms && (paceOk p0 p1 p2 p3 && notesOk ns)))))
theorem spec_orderOk (n t : ByteArray) (lo hi : Int) (ms : List S35) (p0 p1 p2 p3 : Int) (ns : List S94) (h1 : n.size ≤ 1048576) (h2 : t.size ≤ 1048576) (h3 : ms.length ≤ 1048576) (h4 : ∀ m ∈ ms, m.f0.size ≤ 1048576)
    (h5 : ns.length ≤ 1048576) (h6 : ∀ m ∈ ns, m.f0.size ≤ 1048576 ∧ m.f1.size ≤ 1048576) (k : Nat) (hk : 4194304 < k) : spec_OrderOk.f k n t lo hi ms p0 p1 p2 p3 ns = some (orderOk n t lo hi ms p0 p1 p2 p3 ns) := by
  unfold spec_OrderOk.f orderOk
  simp only [spec_nameOk n (by omega) k (by omega), spec_nameOk t (by omega) k (by omega), l1In_eq, spec_metrics ms h3 h4 k (by omega), spec_paceOk, spec_notes ns h5 h6 k (by omega), Option.bind_some]
  cases nameOk n <;> cases nameOk t <;> cases inB lo 1 hi <;> cases metricsOk ms <;> cases paceOk p0 p1 p2 p3 <;> by_cases h : hi ≤ 1000 <;> simp [h]
theorem impl_orderOk (n t : ByteArray) (lo hi : Int) (ms : List S35) (p0 p1 p2 p3 : Int) (ns : List S94) (h1 : n.size ≤ 1048576) (h2 : t.size ≤ 1048576) (h3 : ms.length ≤ 1048576) (h4 : ∀ m ∈ ms, m.f0.size ≤ 1048576)
    (h5 : ns.length ≤ 1048576) (h6 : ∀ m ∈ ns, m.f0.size ≤ 1048576 ∧ m.f1.size ≤ 1048576) (k : Nat) (hk : 4194304 < k) : impl_OrderOk.f k n t lo hi ms p0 p1 p2 p3 ns = some (orderOk n t lo hi ms p0 p1 p2 p3 ns) := by
  unfold impl_OrderOk.f
  have e := scanK (g := fun k i => impl_OrderOk.l0 k ms (ms.length : Int) i n t lo hi ms p0 p1 p2 p3 ns) (n := ms.length) (K := 2097154) (P := mStep ms) (e := nameOk n && (nameOk t && (inB lo 1 hi && (decide (hi ≤ 1000) && (decide ((ms.length : Int) ≤ 4) && (paceOk p0 p1 p2 p3 && notesOk ns))))))
    (fun k hk => by
      simp only [impl_OrderOk.l0]
      rw [if_neg (by omega)]
      simp only [impl_nameOk n (by omega) k (by omega), impl_nameOk t (by omega) k (by omega), from_eq, impl_paceOk, impl_notes ns h5 h6 k (by omega), Option.bind_some]
      cases nameOk n <;> cases nameOk t <;> cases inB lo 1 hi <;> cases paceOk p0 p1 p2 p3 <;> by_cases h : hi ≤ 1000 <;> by_cases h' : (ms.length : Int) ≤ 4 <;> simp [h, h'])
    (fun k i hk hi => by
      have er : rd_T35 ms (i : Int) = ms[i] := getD_at ms _ i hi
      have h1 := h4 _ (List.getElem_mem hi)
      simp only [impl_OrderOk.l0]
      rw [if_pos (by omega), if_pos (by omega), if_pos (by omega), impl_metricOk _ (by rw [er]; omega) k (by rw [er]; omega), Option.bind_some, wsucc (by omega)]
      unfold mStep
      cases metricOk (rd_T35 ms i)
      · simp
      · rcases Nat.eq_zero_or_pos i with rfl | h0
        · simp
        · rw [if_pos rfl, if_pos (by omega), if_pos (by rw [w64 (by omega) (by omega)]; omega), if_pos (by rw [w64 (by omega) (by omega)]; omega), decide_eq_false (by omega), Bool.true_and, Bool.false_or]) ms.length 0 k (by omega) (by omega)
  have e0 : ((0 : Nat) : Int) = 0 := rfl
  rw [e0] at e
  rw [e]
  unfold orderOk metricsOk
  cases nameOk n <;> cases nameOk t <;> cases inB lo 1 hi <;> cases (List.range' 0 ms.length).all (mStep ms) <;> cases paceOk p0 p1 p2 p3 <;> by_cases h : hi ≤ 1000 <;> by_cases h' : (ms.length : Int) ≤ 4 <;> simp [h, h']
end Go.Proofs.Ytjkanclhlnojhaa.M
