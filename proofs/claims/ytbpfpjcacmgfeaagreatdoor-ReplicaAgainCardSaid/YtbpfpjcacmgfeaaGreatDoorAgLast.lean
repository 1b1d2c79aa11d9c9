/- ReplicaAgain holds at every id and every number of ticks: true comes back, and nothing that was there turns; no condition. -/
import Derived.Test.YtbpfpjcacmgfeaaGreatDoorTie
import Derived.Test.YtbpfpjcacmgfeaaGreatDoorCards
import Derived.Test.YtbpfpjcacmgfeaaGreatDoorAgAgK0
import Derived.Test.YtbpfpjcacmgfeaaGreatDoorAgAgK1
import Derived.Test.YtbpfpjcacmgfeaaGreatDoorAgAgK2
import Derived.Test.YtbpfpjcacmgfeaaGreatDoorAgAgK3
import Derived.Test.YtbpfpjcacmgfeaaGreatDoorAgFacts
import Derived.Test.YtbpfpjcacmgfeaaGreatDoorPost
import Derived.ProofKit
import Derived.OpenShut
import Derived.LaidMore
import Derived.Lay
import Derived.SevenTiedAt
import Derived.Stop.Joined
import Derived.Lib.SmallJoins
set_option linter.unusedVariables false
set_option linter.unusedSimpArgs false
namespace Go.Proofs.YtbpfpjcacmgfeaaGreatDoor
open Go.ChangeShapes Go.WideShapes Go.ChangeAt Go.RowKit Go.Lib Go.Joins
theorem replicaAgain_own : ownKnob Tryz.prog.godebug = none := by kernel_rfl
theorem agWalk {a b : Int} (ha : -9223372036854775808 ≤ a ∧ a ≤ 9223372036854775807) (hb : -9223372036854775808 ≤ b ∧ b ≤ 9223372036854775807) (W : World) :
    Calls Tryz.prog 4 #[.int .i64 a, .int .i64 b] W fun e W' => e = .returned (.bool true) ∧ Go.SE.Kept W W' := by
  have hk := Go.SE.within_lt a 4 (by omega)
  have ht := Go.SE.within_lt b 25 (by omega)
  have hr : Go.SE.agRun (Go.SE.within a 4) (Go.SE.within b 25) = true := by
    rcases (by omega : Go.SE.within a 4 = 0 ∨ Go.SE.within a 4 = 1 ∨ Go.SE.within a 4 = 2 ∨ Go.SE.within a 4 = 3) with h | h | h | h <;> rw [h]
    · exact Go.SE.ag_0 _ ht.1 ht.2
    · exact Go.SE.ag_1 _ ht.1 ht.2
    · exact Go.SE.ag_2 _ ht.1 ht.2
    · exact Go.SE.ag_3 _ ht.1 ht.2
  exact Go.SE.again_of ha hb rfl rfl hr W
set_option maxRecDepth 100000 in
theorem replicaAgain_lifted (os : Os) (started : os.Started) (H : Type) (enc : TypeId × Value → H) :
    ReturnsInHanded {} Tryz.checked os 4 .any (fun w args => (Rows.replicaAgainSpec.pre enc Tryz.prog Tryz.f4 Rows.replicaAgainRow.domain false w args ∧ laidMetH Tryz.prog Rows.replicaAgainRow.laid w) ∧ sizedMet enc Tryz.prog Tryz.f4 (OpenSpec.ofChange Rows.replicaAgainSpec) false w args)
      (Rows.replicaAgainSpec.post enc Tryz.prog Tryz.f4 false true false false) := by
  refine returnsInHanded_of_change_and (C := Tryz.checked) (X := fun w _ => laidMetH Tryz.prog Rows.replicaAgainRow.laid w) (fun _ _ _ hh h => h.of_heap hh) replicaAgain_own started (by kernel_rfl) Tryz.func4
    (ChangeSpec.witness_shaped (enc := enc) (C := Tryz.checked) (os := os) (X := fun w _ => laidMetH Tryz.prog Rows.replicaAgainRow.laid w) false (World.laidAll Tryz.prog os Rows.replicaAgainRow.laid) #[.int .i64 0, .int .i64 0] 8 (World.laidAll_os _ _ _)
      (World.shaped_of_ZipB (by kernel_rfl) (by kernel_rfl)) (by kernel_rfl) (by kernel_rfl) (by kernel_rfl)
      (by rw [MakeChecks.laidMetH_plain _ _ _ (by kernel_rfl)]; exact laidMet_laidAll _ (by kernel_rfl) (by kernel_rfl))) ?_
  intro W base args ds gs before hval0 hW _ _ _ _
  have hval : ∀ (j : Nat) t v, Tryz.f4.params[j]? = some t → args[j]? = some v → Value.okWide Tryz.prog W .any base t v := hval0
  have hW' := hW
  obtain ⟨p, q, hA0, hV, rfl, _, _⟩ := hW
  have hA : DataW.TrodAll enc Tryz.prog W 0 (fun _ => true) true Tryz.f4.params.toList args.toList ds p := hA0
  rw [Tryz.params4] at hA hval
  obtain ⟨v0, v1, d0, d1, p0, p1, rfl, rfl, rfl, h0, h1⟩ := trodAll_two hA
  obtain ⟨rfl, rfl⟩ := trodVars_none hV
  obtain ⟨a, rfl, rfl, rfl, wa⟩ := open_int Tryz.underlying3 (hval 0 3 v0 rfl rfl) h0
  obtain ⟨b, rfl, rfl, rfl, wb⟩ := open_int Tryz.underlying3 (hval 1 3 v1 rfl rfl) h1
  simp only [List.append_nil] at hW'
  have ra : -9223372036854775808 ≤ a ∧ a ≤ 9223372036854775807 := by simpa [Lit.wf, IntKind.min, IntKind.max, IntKind.signed, IntKind.bits] using wa
  have rb : -9223372036854775808 ≤ b ∧ b ≤ 9223372036854775807 := by simpa [Lit.wf, IntKind.min, IntKind.max, IntKind.signed, IntKind.bits] using wb
  refine (agWalk ra rb W).mono fun e W' ⟨he, k⟩ => ?_
  subst he
  exact ⟨_, rfl, Go.SE.post_of_kept (pa := []) (pv := []) hW' (fun _ _ _ => trodAll_mk1 (shut_bool Tryz.underlying4 _)) (fun sp _ => trodAll_mk2 (shut_int Tryz.underlying3 wa) (shut_int Tryz.underlying3 wb)) (fun _ _ => rfl) rfl
    k.os k.out k.same (ok_one (by kernel_rfl) rfl (okWide_bool_mk Tryz.underlying4 _))⟩
theorem replicaAgain_holds : Rows.ReplicaAgainSaid :=
  OpenClaim.holds_of_wide 4 Tryz.f4 rfl rfl rfl rfl rfl rfl rfl ⟨rfl, rfl, rfl, rfl, rfl⟩ rfl rfl rfl rfl rfl (by kernel_rfl) Tryz.func4 replicaAgain_facts
    (of_decide_eq_true (by kernel_rfl)) (by unfold Func.isWrapper; first | (rw [if_pos (by decide +kernel)]; kernel_rfl) | (rw [if_neg (by decide +kernel)]; exact ⟨rfl, rfl⟩))
    (fun os started H enc _ => replicaAgain_lifted os started H enc)
theorem replicaAgain_card : Rows.ReplicaAgainCardSaid :=
  Claim7.holds_tied_plain_at .later [] [.data, .data, .data, .data, .pinned] true (true, "65ca4ed468d32001f66c5ece9a73d94e62db90ff4ef37bea01eba7519a4a0d33") true replicaAgain_holds (fun _ h => by cases h) (by kernel_rfl) (fun _ h => by cases h) replicaAgain_row_tie rfl ⟨rfl, rfl⟩ (by kernel_rfl) rfl
    (fun f fn hf hfn => by
      obtain rfl : f = 4 := Option.some.inj ((show Tryz.prog.funcNamed "gavel/gavellaw20.ReplicaAgain" = some 4 by kernel_rfl).symm.trans hf) |>.symm
      obtain rfl : fn = Tryz.f4 := (Option.some.inj (Tryz.func4.symm.trans hfn)).symm
      exact ⟨by as_aux_lemma => kernel_rfl, fun j t ht => by
        rw [Tryz.params4] at ht
        have hm : t ∈ [3, 3] := by simpa using Array.mem_of_getElem? ht
        have hall : ([3, 3].all fun u => !Tryz.prog.wantsStandIn u) = true := by kernel_rfl
        exact (show Tryz.prog.wantsStandIn t = false by simpa using List.all_eq_true.1 hall t hm)⟩)
    replicaAgain_goes
#print axioms replicaAgain_holds
#print axioms replicaAgain_card
end Go.Proofs.YtbpfpjcacmgfeaaGreatDoor
