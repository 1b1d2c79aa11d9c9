/- ReplicaFloors holds at every number of ticks, every round and every time: true comes back, and nothing that was there turns; no condition. -/
import Derived.Test.YtbpfpjcacmgfeaaGreatDoorTie
import Derived.Test.YtbpfpjcacmgfeaaGreatDoorCards
import Derived.Test.YtbpfpjcacmgfeaaGreatDoorFlFlK0
import Derived.Test.YtbpfpjcacmgfeaaGreatDoorFlFlK1
import Derived.Test.YtbpfpjcacmgfeaaGreatDoorFlFlK2
import Derived.Test.YtbpfpjcacmgfeaaGreatDoorFlFacts
import Derived.Test.YtbpfpjcacmgfeaaGreatDoorPost
import Derived.ProofKit
import Derived.OpenShut
import Derived.LaidMore
import Derived.Lay
import Derived.SevenTiedAt
import Derived.Stop.Joined
import Derived.Lib.SmallJoins
set_option linter.unusedVariables false
set_option linter.unusedSimpArgs false
namespace Go.Proofs.YtbpfpjcacmgfeaaGreatDoor
open Go.ChangeShapes Go.WideShapes Go.ChangeAt Go.RowKit Go.Lib Go.Joins
theorem replicaFloors_own : ownKnob Tryz.prog.godebug = none := by kernel_rfl
theorem flWalk {a b d : Int} (ha : -9223372036854775808 ≤ a ∧ a ≤ 9223372036854775807) (hb : -9223372036854775808 ≤ b ∧ b ≤ 9223372036854775807) (hd : 0 ≤ d ∧ d ≤ 18446744073709551615) (W : World) :
    Calls Tryz.prog 3 #[.int .i64 a, .int .i64 b, .int .u64 d] W fun e W' => e = .returned (.bool true) ∧ Go.SE.Kept W W' := by
  have ht := Go.SE.within_lt a 9 (by omega)
  have hs := Go.SE.within_lt b 3 (by omega)
  have m0 : 0 ≤ d.tmod 14 := Int.tmod_nonneg _ hd.1
  have m1 : d.tmod 14 < 14 := Int.tmod_lt_of_pos _ (by omega)
  rcases (by omega : Go.SE.within b 3 = 0 ∨ Go.SE.within b 3 = 1 ∨ Go.SE.within b 3 = 2) with h | h | h
  · obtain ⟨lo, hi, hl, hh, hr⟩ := Go.SE.fl_0 (Go.SE.within a 9) (d.tmod 14) ht.1 ht.2 m0 m1
    exact Go.SE.floors_of ha hb hd rfl h hl hh hr W
  · obtain ⟨lo, hi, hl, hh, hr⟩ := Go.SE.fl_1 (Go.SE.within a 9) (d.tmod 14) ht.1 ht.2 m0 m1
    exact Go.SE.floors_of ha hb hd rfl h hl hh hr W
  · obtain ⟨lo, hi, hl, hh, hr⟩ := Go.SE.fl_2 (Go.SE.within a 9) (d.tmod 14) ht.1 ht.2 m0 m1
    exact Go.SE.floors_of ha hb hd rfl h hl hh hr W
set_option maxRecDepth 100000 in
theorem replicaFloors_lifted (os : Os) (started : os.Started) (H : Type) (enc : TypeId × Value → H) :
    ReturnsInHanded {} Tryz.checked os 3 .any (fun w args => (Rows.replicaFloorsSpec.pre enc Tryz.prog Tryz.f3 Rows.replicaFloorsRow.domain false w args ∧ laidMetH Tryz.prog Rows.replicaFloorsRow.laid w) ∧ sizedMet enc Tryz.prog Tryz.f3 (OpenSpec.ofChange Rows.replicaFloorsSpec) false w args)
      (Rows.replicaFloorsSpec.post enc Tryz.prog Tryz.f3 false true false false) := by
  refine returnsInHanded_of_change_and (C := Tryz.checked) (X := fun w _ => laidMetH Tryz.prog Rows.replicaFloorsRow.laid w) (fun _ _ _ hh h => h.of_heap hh) replicaFloors_own started (by kernel_rfl) Tryz.func3
    (ChangeSpec.witness_shaped (enc := enc) (C := Tryz.checked) (os := os) (X := fun w _ => laidMetH Tryz.prog Rows.replicaFloorsRow.laid w) false (World.laidAll Tryz.prog os Rows.replicaFloorsRow.laid) #[.int .i64 0, .int .i64 0, .int .u64 0] 8 (World.laidAll_os _ _ _)
      (World.shaped_of_ZipB (by kernel_rfl) (by kernel_rfl)) (by kernel_rfl) (by kernel_rfl) (by kernel_rfl)
      (by rw [MakeChecks.laidMetH_plain _ _ _ (by kernel_rfl)]; exact laidMet_laidAll _ (by kernel_rfl) (by kernel_rfl))) ?_
  intro W base args ds gs before hval0 hW _ _ _ _
  have hval : ∀ (j : Nat) t v, Tryz.f3.params[j]? = some t → args[j]? = some v → Value.okWide Tryz.prog W .any base t v := hval0
  have hW' := hW
  obtain ⟨p, q, hA0, hV, rfl, _, _⟩ := hW
  have hA : DataW.TrodAll enc Tryz.prog W 0 (fun _ => true) true Tryz.f3.params.toList args.toList ds p := hA0
  rw [Tryz.params3] at hA hval
  obtain ⟨v0, v1, v2, d0, d1, d2, p0, p1, p2, rfl, rfl, rfl, h0, h1, h2⟩ := trodAll_three hA
  obtain ⟨rfl, rfl⟩ := trodVars_none hV
  obtain ⟨a, rfl, rfl, rfl, wa⟩ := open_int Tryz.underlying3 (hval 0 3 v0 rfl rfl) h0
  obtain ⟨b, rfl, rfl, rfl, wb⟩ := open_int Tryz.underlying3 (hval 1 3 v1 rfl rfl) h1
  obtain ⟨d, rfl, rfl, rfl, wd⟩ := open_int Tryz.underlying22 (hval 2 22 v2 rfl rfl) h2
  simp only [List.append_nil] at hW'
  have ra : -9223372036854775808 ≤ a ∧ a ≤ 9223372036854775807 := by simpa [Lit.wf, IntKind.min, IntKind.max, IntKind.signed, IntKind.bits] using wa
  have rb : -9223372036854775808 ≤ b ∧ b ≤ 9223372036854775807 := by simpa [Lit.wf, IntKind.min, IntKind.max, IntKind.signed, IntKind.bits] using wb
  have rd : 0 ≤ d ∧ d ≤ 18446744073709551615 := by simpa [Lit.wf, IntKind.min, IntKind.max, IntKind.signed, IntKind.bits] using wd
  refine (flWalk ra rb rd W).mono fun e W' ⟨he, k⟩ => ?_
  subst he
  exact ⟨_, rfl, Go.SE.post_of_kept (pa := []) (pv := []) hW' (fun _ _ _ => trodAll_mk1 (shut_bool Tryz.underlying4 _)) (fun sp _ => trodAll_mk3 (shut_int Tryz.underlying3 wa) (shut_int Tryz.underlying3 wb) (shut_int Tryz.underlying22 wd)) (fun _ _ => rfl) rfl
    k.os k.out k.same (ok_one (by kernel_rfl) rfl (okWide_bool_mk Tryz.underlying4 _))⟩
theorem replicaFloors_holds : Rows.ReplicaFloorsSaid :=
  OpenClaim.holds_of_wide 3 Tryz.f3 rfl rfl rfl rfl rfl rfl rfl ⟨rfl, rfl, rfl, rfl, rfl⟩ rfl rfl rfl rfl rfl (by kernel_rfl) Tryz.func3 replicaFloors_facts
    (of_decide_eq_true (by kernel_rfl)) (by unfold Func.isWrapper; first | (rw [if_pos (by decide +kernel)]; kernel_rfl) | (rw [if_neg (by decide +kernel)]; exact ⟨rfl, rfl⟩))
    (fun os started H enc _ => replicaFloors_lifted os started H enc)
theorem replicaFloors_card : Rows.ReplicaFloorsCardSaid :=
  Claim7.holds_tied_plain_at .later [] [.data, .data, .data, .data, .pinned] true (true, "65ca4ed468d32001f66c5ece9a73d94e62db90ff4ef37bea01eba7519a4a0d33") true replicaFloors_holds (fun _ h => by cases h) (by kernel_rfl) (fun _ h => by cases h) replicaFloors_row_tie rfl ⟨rfl, rfl⟩ (by kernel_rfl) rfl
    (fun f fn hf hfn => by
      obtain rfl : f = 3 := Option.some.inj ((show Tryz.prog.funcNamed "gavel/gavellaw20.ReplicaFloors" = some 3 by kernel_rfl).symm.trans hf) |>.symm
      obtain rfl : fn = Tryz.f3 := (Option.some.inj (Tryz.func3.symm.trans hfn)).symm
      exact ⟨by as_aux_lemma => kernel_rfl, fun j t ht => by
        rw [Tryz.params3] at ht
        have hm : t ∈ [3, 3, 22] := by simpa using Array.mem_of_getElem? ht
        have hall : ([3, 3, 22].all fun u => !Tryz.prog.wantsStandIn u) = true := by kernel_rfl
        exact (show Tryz.prog.wantsStandIn t = false by simpa using List.all_eq_true.1 hall t hm)⟩)
    replicaFloors_goes
#print axioms replicaFloors_holds
#print axioms replicaFloors_card
end Go.Proofs.YtbpfpjcacmgfeaaGreatDoor
