/- AppendSeq of the keys of an empty map hands back nil, and leaves memory alone. -/
import Derived.Test.YtbpfpjcacmgfeaaGreatDoorFlTabG
import Derived.Test.YtbpfpjcacmgfeaaGreatDoorEngC
import Derived.Laws.IdiomRangeMap
import Derived.RangeFuncLeaves
import Derived.RangeFuncSeq
import Derived.WalkKit
import Derived.OwnWalkIn
import Derived.TacticsInMore
import Derived.RegionIn
import Derived.LoopNIn
import Derived.LoopIn
set_option linter.unusedVariables false
set_option linter.unusedSimpArgs false
namespace Go.Proofs
open Go Go.Proofs
open Go.RowKit
open Go.SE (Kept)
set_option maxRecDepth 100000 in
set_option maxHeartbeats 1000000 in
theorem keys193 (F : Fence) (n : Nat) (hF : F.fn 193) (hro : F.round = none) (l Bm M clock : Nat) (W : World) (hm : W.cell? ⟨Bm, 0, none⟩ = some (.map (some M))) (hM : W.heap[M]? = some (.map #[] clock)) :
    CallsIn F n Tryz.prog 193 #[.func (.yield l) #[] #[], .pointer (some ⟨Bm, 0, none⟩)] W fun e W' => (∃ v, e = .returned v) ∧ W' = W.alloc (.mapIter (some M) clock #[] clock) := by
  refine callsIn_of_wp Tryz.func193 rfl hF ?_ hro
  simp only [Tryz.ntmps193, List.size_toArray, List.length_cons, List.length_nil, Nat.reduceAdd, Nat.reduceSub, Array.replicate_succ, Array.replicate_zero, List.push_toArray, List.append_toArray, List.nil_append, List.cons_append]
  have hrg := run_range_map (P := Tryz.prog) W 179 3 208 M #[] clock Tryz.underlying179 hM
  have hnx : ∀ ty, (Instr.next (.pointer (some ⟨W.heap.size, 0, none⟩)) false ty).run Tryz.prog (W.alloc (.mapIter (some M) clock #[] clock)) = .ok (.tuple #[.bool false]) (W.alloc (.mapIter (some M) clock #[] clock)) := by
    intro ty
    rcases run_next_map (P := Tryz.prog) W ty M clock clock #[] #[] clock hM (by simp) (Nat.le_refl _) with h | ⟨e, he, _⟩
    · exact h.2
    · simp [leftOf] at he
  gi_wp2
  refine wpIn_loop_rounds 1 ?_
  rw [roundsIn_succ]
  gi_wp2
  go_end0
  exact ⟨⟨_, rfl⟩, rfl⟩
set_option maxRecDepth 100000 in
set_option maxHeartbeats 1000000 in
theorem app242 (F : Fence) (n : Nat) (hF : F.fn 242) (hFg : F.fn 193) (hro : F.round = none) (hn : 1 ≤ n) (Bm M clock : Nat) (w : World) (hm : w.cell? ⟨Bm, 0, none⟩ = some (.map (some M))) (hM : w.heap[M]? = some (.map #[] clock)) :
    CallsIn F n Tryz.prog 242 #[.slice none 0 0, (.func (.func 193) #[] #[.pointer (some ⟨Bm, 0, none⟩)])] w fun e w' => e = .returned (.slice none 0 0) ∧ Kept w w' := by
  refine callsIn_of_wp_marks Tryz.func242 rfl hF ?_ hro
  simp only [Tryz.ntmps242, List.size_toArray, List.length_cons, List.length_nil, Nat.reduceAdd, Nat.reduceSub, Array.replicate_succ, Array.replicate_zero, List.push_toArray, List.append_toArray, List.nil_append, List.cons_append]
  gi_wp2
  refine wpIn_rangeFunc ?_
  intro fn hfn
  rw [hro]
  obtain ⟨W0, hW0⟩ : ∃ W0, w.alloc (.cells #[.slice none 0 0] 204) = W0 := ⟨_, rfl⟩
  rw [hW0]
  have hs0 : W0.heap.size = w.heap.size + 1 := by rw [← hW0]; simp
  have k0 : Kept w W0 := by rw [← hW0]; exact Kept.alloc _ _
  have hv0 : W0.heap[w.heap.size]? = some (.cells #[.slice none 0 0] 204 (0, 0)) := by rw [← hW0]; exact World.alloc_heap_new w _
  have hM0 : W0.heap[M]? = some (.map #[] clock) := (k0.same M (Array.getElem?_eq_some_iff.1 hM).1).trans hM
  have hm0 : W0.cell? ⟨Bm, 0, none⟩ = some (.map (some M)) := k0.cell hm
  generalize Code.region 2 _ _ = asg
  generalize Code.block 1 _ = bd
  obtain ⟨rec, hrec⟩ : ∃ rec : Loop, rec = { state := .ready, pending := none, fn := fn, tmps := #[.slice none 0 0, (.func (.func 193) #[] #[.pointer (some ⟨Bm, 0, none⟩)]), .pointer (some ⟨w.heap.size, 0, none⟩), undef, .slice none 0 0, undef, (.func (.func 193) #[] #[.pointer (some ⟨Bm, 0, none⟩)]), undef, undef, undef, undef, undef, undef], params := #[7], assign := asg, body := bd, defers := W0.heap.size } := ⟨_, rfl⟩
  obtain ⟨W1, hW1⟩ : ∃ W1, (W0.alloc (.deferred (some []))).alloc (.loop rec) = W1 := ⟨_, rfl⟩
  have k1 : Kept W0 W1 := by rw [← hW1]; exact (Kept.alloc _ _).trans (Kept.alloc _ _)
  have hs1 : W1.heap.size = W0.heap.size + 2 := by rw [← hW1]; simp
  have hL1 : W1.heap[W0.heap.size + 1]? = some (.loop rec) := by rw [← hW1]; have := World.alloc_heap_new (W0.alloc (.deferred (some []))) (.loop rec); rwa [World.size_alloc] at this
  have hK1 : W1.heap[W0.heap.size]? = some (.deferred (some [])) := by
    rw [← hW1]
    have := heap_alloc_old (W0.alloc (.deferred (some []))) (.loop rec) (r := W0.heap.size) (by simp)
    exact this.trans (World.alloc_heap_new W0 _)
  refine ⟨W0.heap.size + 1, [{ target := .collected W0.heap.size, args := #[] }], W1, { target := .fn (.func 193) #[.pointer (some ⟨Bm, 0, none⟩)], args := #[.func (.yield (W0.heap.size + 1)) #[] #[]] }, W1, 193, #[.func (.yield (W0.heap.size + 1)) #[] #[], .pointer (some ⟨Bm, 0, none⟩)], W1, ?_, ?_, ?_, ?_, fun _ => hn, ?_⟩
  · rw [← hW1, hrec]; exact run_enterLoop_outer _ _ _ _ _
  · simp [resolve, go_sem]
  · intro f' hf'; simp [Target.leads] at hf'; subst hf'; exact hFg
  · simp [invoke, go_sem, Tryz.call193]
  · refine (keys193 F (n - 1) hFg hro (W0.heap.size + 1) Bm M clock W1 (k1.cell hm0) ((k1.same M (Array.getElem?_eq_some_iff.1 hM0).1).trans hM0)).mono ?_
    rintro e W2 ⟨⟨v0, rfl⟩, hW2⟩
    have k2 : Kept W1 W2 := by rw [hW2]; exact Kept.alloc _ _
    have hL2 : W2.heap[W0.heap.size + 1]? = some (.loop rec) := (k2.same _ (by omega)).trans hL1
    have hK2 : W2.heap[W0.heap.size]? = some (.deferred (some [])) := (k2.same _ (by omega)).trans hK1
    have hv2 : W2.heap[w.heap.size]? = some (.cells #[.slice none 0 0] 204 (0, 0)) := (k2.same _ (by omega)).trans ((k1.same _ (by omega)).trans hv0)
    have kw2 : Kept w W2 := (k0.trans k1).trans k2
    have hend := run_endLoop (P := Tryz.prog) hL2 (by rw [hrec]; simp)
    obtain ⟨W3, hW3⟩ : ∃ W3, W2.putObj (W0.heap.size + 1) (.loop { rec with state := .exhausted }) = W3 := ⟨_, rfl⟩
    rw [hW3] at hend
    have kw3 : Kept w W3 := by rw [← hW3]; exact kw2.put _ (by omega)
    have hK3 : W3.heap[W0.heap.size]? = some (.deferred (some [])) := by rw [← hW3]; exact (World.putObj_heap_other (by omega)).trans hK2
    have hv3 : W3.heap[w.heap.size]? = some (.cells #[.slice none 0 0] 204 (0, 0)) := by rw [← hW3]; exact (World.putObj_heap_other (by omega)).trans hv2
    have hc3 : W3.cell? ⟨w.heap.size, 0, none⟩ = some (.slice none 0 0) := by simp [World.cell?, hv3]
    have hp : rec.pending = none := by rw [hrec]
    rw [hp] at hend
    clear hW3 hrec
    refine ⟨none, W3, hend, ?_⟩
    gi_wp2
    rw [← hs0]
    refine ⟨by simp, .inl ⟨_, _, rfl, run_takeDeferred hK3, ?_⟩⟩
    exact ⟨_, results_tmp rfl _ _ _, rfl, kw3.put _ (by omega)⟩
theorem app242_ok {sha : List UInt8 → Nat → UInt8} {E : Go.SE.Env} : Go.SE.SumOK sha E Tryz.prog 242 (Go.SE.apNone 193) :=
  Go.SE.apNone_ok ⟨_, Tryz.func242, rfl, by decide⟩ fun Bm M clock w hm hM => callsIn_wide.1 (app242 Fence.wide 1 trivial trivial rfl (by omega) Bm M clock w hm hM)
set_option maxRecDepth 100000 in
set_option maxHeartbeats 1000000 in
theorem keys269 (F : Fence) (n : Nat) (hF : F.fn 269) (hro : F.round = none) (l Bm M clock : Nat) (W : World) (hm : W.cell? ⟨Bm, 0, none⟩ = some (.map (some M))) (hM : W.heap[M]? = some (.map #[] clock)) :
    CallsIn F n Tryz.prog 269 #[.func (.yield l) #[] #[], .pointer (some ⟨Bm, 0, none⟩)] W fun e W' => (∃ v, e = .returned v) ∧ W' = W.alloc (.mapIter (some M) clock #[] clock) := by
  refine callsIn_of_wp Tryz.func269 rfl hF ?_ hro
  simp only [Tryz.ntmps269, List.size_toArray, List.length_cons, List.length_nil, Nat.reduceAdd, Nat.reduceSub, Array.replicate_succ, Array.replicate_zero, List.push_toArray, List.append_toArray, List.nil_append, List.cons_append]
  have hrg := run_range_map (P := Tryz.prog) W 176 33 44 M #[] clock Tryz.underlying176 hM
  have hnx : ∀ ty, (Instr.next (.pointer (some ⟨W.heap.size, 0, none⟩)) false ty).run Tryz.prog (W.alloc (.mapIter (some M) clock #[] clock)) = .ok (.tuple #[.bool false]) (W.alloc (.mapIter (some M) clock #[] clock)) := by
    intro ty
    rcases run_next_map (P := Tryz.prog) W ty M clock clock #[] #[] clock hM (by simp) (Nat.le_refl _) with h | ⟨e, he, _⟩
    · exact h.2
    · simp [leftOf] at he
  gi_wp2
  refine wpIn_loop_rounds 1 ?_
  rw [roundsIn_succ]
  gi_wp2
  go_end0
  exact ⟨⟨_, rfl⟩, rfl⟩
set_option maxRecDepth 100000 in
set_option maxHeartbeats 1000000 in
theorem app301 (F : Fence) (n : Nat) (hF : F.fn 301) (hFg : F.fn 269) (hro : F.round = none) (hn : 1 ≤ n) (Bm M clock : Nat) (w : World) (hm : w.cell? ⟨Bm, 0, none⟩ = some (.map (some M))) (hM : w.heap[M]? = some (.map #[] clock)) :
    CallsIn F n Tryz.prog 301 #[.slice none 0 0, (.func (.func 269) #[] #[.pointer (some ⟨Bm, 0, none⟩)])] w fun e w' => e = .returned (.slice none 0 0) ∧ Kept w w' := by
  refine callsIn_of_wp_marks Tryz.func301 rfl hF ?_ hro
  simp only [Tryz.ntmps301, List.size_toArray, List.length_cons, List.length_nil, Nat.reduceAdd, Nat.reduceSub, Array.replicate_succ, Array.replicate_zero, List.push_toArray, List.append_toArray, List.nil_append, List.cons_append]
  gi_wp2
  refine wpIn_rangeFunc ?_
  intro fn hfn
  rw [hro]
  obtain ⟨W0, hW0⟩ : ∃ W0, w.alloc (.cells #[.slice none 0 0] 382) = W0 := ⟨_, rfl⟩
  rw [hW0]
  have hs0 : W0.heap.size = w.heap.size + 1 := by rw [← hW0]; simp
  have k0 : Kept w W0 := by rw [← hW0]; exact Kept.alloc _ _
  have hv0 : W0.heap[w.heap.size]? = some (.cells #[.slice none 0 0] 382 (0, 0)) := by rw [← hW0]; exact World.alloc_heap_new w _
  have hM0 : W0.heap[M]? = some (.map #[] clock) := (k0.same M (Array.getElem?_eq_some_iff.1 hM).1).trans hM
  have hm0 : W0.cell? ⟨Bm, 0, none⟩ = some (.map (some M)) := k0.cell hm
  generalize Code.region 2 _ _ = asg
  generalize Code.block 1 _ = bd
  obtain ⟨rec, hrec⟩ : ∃ rec : Loop, rec = { state := .ready, pending := none, fn := fn, tmps := #[.slice none 0 0, (.func (.func 269) #[] #[.pointer (some ⟨Bm, 0, none⟩)]), .pointer (some ⟨w.heap.size, 0, none⟩), undef, .slice none 0 0, undef, (.func (.func 269) #[] #[.pointer (some ⟨Bm, 0, none⟩)]), undef, undef, undef, undef, undef, undef], params := #[7], assign := asg, body := bd, defers := W0.heap.size } := ⟨_, rfl⟩
  obtain ⟨W1, hW1⟩ : ∃ W1, (W0.alloc (.deferred (some []))).alloc (.loop rec) = W1 := ⟨_, rfl⟩
  have k1 : Kept W0 W1 := by rw [← hW1]; exact (Kept.alloc _ _).trans (Kept.alloc _ _)
  have hs1 : W1.heap.size = W0.heap.size + 2 := by rw [← hW1]; simp
  have hL1 : W1.heap[W0.heap.size + 1]? = some (.loop rec) := by rw [← hW1]; have := World.alloc_heap_new (W0.alloc (.deferred (some []))) (.loop rec); rwa [World.size_alloc] at this
  have hK1 : W1.heap[W0.heap.size]? = some (.deferred (some [])) := by
    rw [← hW1]
    have := heap_alloc_old (W0.alloc (.deferred (some []))) (.loop rec) (r := W0.heap.size) (by simp)
    exact this.trans (World.alloc_heap_new W0 _)
  refine ⟨W0.heap.size + 1, [{ target := .collected W0.heap.size, args := #[] }], W1, { target := .fn (.func 269) #[.pointer (some ⟨Bm, 0, none⟩)], args := #[.func (.yield (W0.heap.size + 1)) #[] #[]] }, W1, 269, #[.func (.yield (W0.heap.size + 1)) #[] #[], .pointer (some ⟨Bm, 0, none⟩)], W1, ?_, ?_, ?_, ?_, fun _ => hn, ?_⟩
  · rw [← hW1, hrec]; exact run_enterLoop_outer _ _ _ _ _
  · simp [resolve, go_sem]
  · intro f' hf'; simp [Target.leads] at hf'; subst hf'; exact hFg
  · simp [invoke, go_sem, Tryz.call269]
  · refine (keys269 F (n - 1) hFg hro (W0.heap.size + 1) Bm M clock W1 (k1.cell hm0) ((k1.same M (Array.getElem?_eq_some_iff.1 hM0).1).trans hM0)).mono ?_
    rintro e W2 ⟨⟨v0, rfl⟩, hW2⟩
    have k2 : Kept W1 W2 := by rw [hW2]; exact Kept.alloc _ _
    have hL2 : W2.heap[W0.heap.size + 1]? = some (.loop rec) := (k2.same _ (by omega)).trans hL1
    have hK2 : W2.heap[W0.heap.size]? = some (.deferred (some [])) := (k2.same _ (by omega)).trans hK1
    have hv2 : W2.heap[w.heap.size]? = some (.cells #[.slice none 0 0] 382 (0, 0)) := (k2.same _ (by omega)).trans ((k1.same _ (by omega)).trans hv0)
    have kw2 : Kept w W2 := (k0.trans k1).trans k2
    have hend := run_endLoop (P := Tryz.prog) hL2 (by rw [hrec]; simp)
    obtain ⟨W3, hW3⟩ : ∃ W3, W2.putObj (W0.heap.size + 1) (.loop { rec with state := .exhausted }) = W3 := ⟨_, rfl⟩
    rw [hW3] at hend
    have kw3 : Kept w W3 := by rw [← hW3]; exact kw2.put _ (by omega)
    have hK3 : W3.heap[W0.heap.size]? = some (.deferred (some [])) := by rw [← hW3]; exact (World.putObj_heap_other (by omega)).trans hK2
    have hv3 : W3.heap[w.heap.size]? = some (.cells #[.slice none 0 0] 382 (0, 0)) := by rw [← hW3]; exact (World.putObj_heap_other (by omega)).trans hv2
    have hc3 : W3.cell? ⟨w.heap.size, 0, none⟩ = some (.slice none 0 0) := by simp [World.cell?, hv3]
    have hp : rec.pending = none := by rw [hrec]
    rw [hp] at hend
    clear hW3 hrec
    refine ⟨none, W3, hend, ?_⟩
    gi_wp2
    rw [← hs0]
    refine ⟨by simp, .inl ⟨_, _, rfl, run_takeDeferred hK3, ?_⟩⟩
    exact ⟨_, results_tmp rfl _ _ _, rfl, kw3.put _ (by omega)⟩
theorem app301_ok {sha : List UInt8 → Nat → UInt8} {E : Go.SE.Env} : Go.SE.SumOK sha E Tryz.prog 301 (Go.SE.apNone 269) :=
  Go.SE.apNone_ok ⟨_, Tryz.func301, rfl, by decide⟩ fun Bm M clock w hm hM => callsIn_wide.1 (app301 Fence.wide 1 trivial trivial rfl (by omega) Bm M clock w hm hM)
end Go.Proofs
