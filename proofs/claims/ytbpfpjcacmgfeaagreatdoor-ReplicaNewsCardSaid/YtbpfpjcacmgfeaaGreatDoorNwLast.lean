/- ReplicaNews holds at every configuration and every id: true comes back, and nothing that was there turns; no condition. -/
import Derived.Test.YtbpfpjcacmgfeaaGreatDoorTie
import Derived.Test.YtbpfpjcacmgfeaaGreatDoorCards
import Derived.Test.YtbpfpjcacmgfeaaGreatDoorNwCls
import Derived.Test.YtbpfpjcacmgfeaaGreatDoorNwFacts
import Derived.Test.YtbpfpjcacmgfeaaGreatDoorPost
import Derived.ProofKit
import Derived.OpenShut
import Derived.LaidMore
import Derived.Lay
import Derived.SevenTiedAt
import Derived.Stop.Joined
import Derived.Lib.SmallJoins
set_option linter.unusedVariables false
set_option linter.unusedSimpArgs false
namespace Go.Proofs.YtbpfpjcacmgfeaaGreatDoor
open Go.ChangeShapes Go.WideShapes Go.ChangeAt Go.RowKit Go.Lib Go.Joins
theorem replicaNews_own : ownKnob Tryz.prog.godebug = none := by kernel_rfl
theorem nwWalk {a b d : Int} (ha : -9223372036854775808 ≤ a ∧ a ≤ 9223372036854775807) (hb : -9223372036854775808 ≤ b ∧ b ≤ 9223372036854775807) (hd : -9223372036854775808 ≤ d ∧ d ≤ 9223372036854775807) (W : World) :
    Calls Tryz.prog 5 #[.agg #[.int .i64 a, .int .i64 b], .int .i64 d] W fun e W' => e = .returned (.bool true) ∧ Go.SE.Kept W W' := by
  obtain ⟨_, _, _, _, _, _, h1, h2, h3, hr⟩ := Go.SE.news_all a b d ha hb hd
  exact Go.SE.news_of h1 h2 h3 hr W
set_option maxRecDepth 100000 in
theorem replicaNews_lifted (os : Os) (started : os.Started) (H : Type) (enc : TypeId × Value → H) :
    ReturnsInHanded {} Tryz.checked os 5 .any (fun w args => (Rows.replicaNewsSpec.pre enc Tryz.prog Tryz.f5 Rows.replicaNewsRow.domain false w args ∧ laidMetH Tryz.prog Rows.replicaNewsRow.laid w) ∧ sizedMet enc Tryz.prog Tryz.f5 (OpenSpec.ofChange Rows.replicaNewsSpec) false w args)
      (Rows.replicaNewsSpec.post enc Tryz.prog Tryz.f5 false true false false) := by
  refine returnsInHanded_of_change_and (C := Tryz.checked) (X := fun w _ => laidMetH Tryz.prog Rows.replicaNewsRow.laid w) (fun _ _ _ hh h => h.of_heap hh) replicaNews_own started (by kernel_rfl) Tryz.func5
    (ChangeSpec.witness_shaped (enc := enc) (C := Tryz.checked) (os := os) (X := fun w _ => laidMetH Tryz.prog Rows.replicaNewsRow.laid w) false (World.laidAll Tryz.prog os Rows.replicaNewsRow.laid) #[.agg #[.int .i64 0, .int .i64 0], .int .i64 0] 8 (World.laidAll_os _ _ _)
      (World.shaped_of_ZipB (by kernel_rfl) (by kernel_rfl)) (by kernel_rfl) (by kernel_rfl) (by kernel_rfl)
      (by rw [MakeChecks.laidMetH_plain _ _ _ (by kernel_rfl)]; exact laidMet_laidAll _ (by kernel_rfl) (by kernel_rfl))) ?_
  intro W base args ds gs before hval0 hW _ _ _ _
  have hval : ∀ (j : Nat) t v, Tryz.f5.params[j]? = some t → args[j]? = some v → Value.okWide Tryz.prog W .any base t v := hval0
  have hW' := hW
  obtain ⟨p, q, hA0, hV, rfl, _, _⟩ := hW
  have hA : DataW.TrodAll enc Tryz.prog W 0 (fun _ => true) true Tryz.f5.params.toList args.toList ds p := hA0
  rw [Tryz.params5] at hA hval
  obtain ⟨v0, v1, d0, d1, p0, p1, rfl, rfl, rfl, h0, h1⟩ := trodAll_two hA
  obtain ⟨rfl, rfl⟩ := trodVars_none hV
  obtain ⟨u0, u1, y0, y1, m, rfl, rfl, rfl, g0, g1⟩ := open_agg2 Tryz.underlying24 (by kernel_rfl) (by kernel_rfl) (hval 0 24 v0 rfl rfl) h0
  obtain ⟨a, e0, rfl, wa⟩ := DataW.trod_int Tryz.underlying3 g0
  obtain ⟨b, e1, rfl, wb⟩ := DataW.trod_int Tryz.underlying3 g1
  obtain rfl := (List.cons.inj e0).1
  obtain rfl := (List.cons.inj e1).1
  obtain ⟨d, rfl, rfl, rfl, wd⟩ := open_int Tryz.underlying3 (hval 1 3 v1 rfl rfl) h1
  simp only [List.append_nil] at hW'
  have ra : -9223372036854775808 ≤ a ∧ a ≤ 9223372036854775807 := by simpa [Lit.wf, IntKind.min, IntKind.max, IntKind.signed, IntKind.bits] using wa
  have rb : -9223372036854775808 ≤ b ∧ b ≤ 9223372036854775807 := by simpa [Lit.wf, IntKind.min, IntKind.max, IntKind.signed, IntKind.bits] using wb
  have rd : -9223372036854775808 ≤ d ∧ d ≤ 9223372036854775807 := by simpa [Lit.wf, IntKind.min, IntKind.max, IntKind.signed, IntKind.bits] using wd
  refine (nwWalk ra rb rd W).mono fun e W' ⟨he, k⟩ => ?_
  subst he
  exact ⟨_, rfl, Go.SE.post_of_kept (pa := []) (pv := []) hW' (fun _ _ _ => trodAll_mk1 (shut_bool Tryz.underlying4 _)) (fun sp _ => trodAll_mk2 (shut_agg2 Tryz.underlying24 (by kernel_rfl) (by kernel_rfl) ⟨1, trod_int_mk 0 Tryz.underlying3 wa⟩ ⟨1, trod_int_mk 0 Tryz.underlying3 wb⟩) (shut_int Tryz.underlying3 wd)) (fun _ _ => rfl) rfl
    k.os k.out k.same (ok_one (by kernel_rfl) rfl (okWide_bool_mk Tryz.underlying4 _))⟩
theorem replicaNews_holds : Rows.ReplicaNewsSaid :=
  OpenClaim.holds_of_wide 5 Tryz.f5 rfl rfl rfl rfl rfl rfl rfl ⟨rfl, rfl, rfl, rfl, rfl⟩ rfl rfl rfl rfl rfl (by kernel_rfl) Tryz.func5 replicaNews_facts
    (of_decide_eq_true (by kernel_rfl)) (by unfold Func.isWrapper; first | (rw [if_pos (by decide +kernel)]; kernel_rfl) | (rw [if_neg (by decide +kernel)]; exact ⟨rfl, rfl⟩))
    (fun os started H enc _ => replicaNews_lifted os started H enc)
theorem replicaNews_card : Rows.ReplicaNewsCardSaid :=
  Claim7.holds_tied_plain_at .later [] [.data, .data, .data, .data, .pinned] true (true, "65ca4ed468d32001f66c5ece9a73d94e62db90ff4ef37bea01eba7519a4a0d33") true replicaNews_holds (fun _ h => by cases h) (by kernel_rfl) (fun _ h => by cases h) replicaNews_row_tie rfl ⟨rfl, rfl⟩ (by kernel_rfl) rfl
    (fun f fn hf hfn => by
      obtain rfl : f = 5 := Option.some.inj ((show Tryz.prog.funcNamed "gavel/gavellaw20.ReplicaNews" = some 5 by kernel_rfl).symm.trans hf) |>.symm
      obtain rfl : fn = Tryz.f5 := (Option.some.inj (Tryz.func5.symm.trans hfn)).symm
      exact ⟨by as_aux_lemma => kernel_rfl, fun j t ht => by
        rw [Tryz.params5] at ht
        have hm : t ∈ [24, 3] := by simpa using Array.mem_of_getElem? ht
        have hall : ([24, 3].all fun u => !Tryz.prog.wantsStandIn u) = true := by kernel_rfl
        exact (show Tryz.prog.wantsStandIn t = false by simpa using List.all_eq_true.1 hall t hm)⟩)
    replicaNews_goes
#print axioms replicaNews_holds
#print axioms replicaNews_card
end Go.Proofs.YtbpfpjcacmgfeaaGreatDoor
