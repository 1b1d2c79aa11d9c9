/- What is run of the law, and what a run to true says; no condition. -/
import Derived.Test.YtbpfpjcacmgfeaaGreatDoorAgTabG
import Derived.Test.YtbpfpjcacmgfeaaGreatDoorAgApp
import Derived.Test.YtbpfpjcacmgfeaaGreatDoorAgWit
set_option linter.unusedVariables false
set_option linter.unusedSimpArgs false
namespace Go.SE
open Go Go.Proofs
/-! # ReplicaAgain: what is run -/
noncomputable def sumsW (f : Nat) : Option Sum := bite (Nat.beq f 242) (some (apNone 193)) (bite (Nat.beq f 301) (some (apNone 269)) none)
noncomputable def sumsA (E : Env) (f : Nat) : Option Sum := bite (Nat.beq f 7) (some (withinS E)) (bite (Nat.beq f 10) (some (memo [] [.b true])) (sumsW f))
theorem sumsW_ok {sha : List UInt8 → Nat → UInt8} {E : Env} : ∀ f s, sumsW f = some s → SumOK sha E Tryz.prog f s := by
  intro f s h
  unfold sumsW at h
  simp only [bite_eq] at h
  split at h
  · rename_i hf; cases h; rw [beqT hf]; exact app242_ok
  · split at h
    · rename_i hf; cases h; rw [beqT hf]; exact app301_ok
    · cases h
theorem callsW {sha : List UInt8 → Nat → UInt8} {E : Env} (n : Nat) : CallsOK sha E Tryz.prog (run E (prgOf fnTab sumsW) n) :=
  (run_sound cx_ok (dreg_ok cx_ok (by kernel_rfl)) (prgOf_ok fns_ok sumsW_ok) n).1
theorem wakes_run : okTrue ((run (envZero [5]) (prgOf fnTab sumsW) 100).call 10 [] (heapZero 5)) = true := by kernel_rfl
theorem sumsA_ok {sha : List UInt8 → Nat → UInt8} {E : Env} (hb : E.byt = [5]) : ∀ f s, sumsA E f = some s → SumOK sha E Tryz.prog f s := by
  intro f s h
  unfold sumsA at h
  simp only [bite_eq] at h
  split at h
  · rename_i hf; cases h; rw [beqT hf]; exact within_ok_
  · split at h
    · rename_i hf; cases h; rw [beqT hf]; exact memo_true hb (callsW 100) rfl rfl wakes_run
    · exact sumsW_ok f s h
theorem callsA {sha : List UInt8 → Nat → UInt8} {E : Env} (hb : E.byt = [5]) (n : Nat) : CallsOK sha E Tryz.prog (run E (prgOf fnTab (sumsA E)) n) :=
  (run_sound cx_ok (dreg_ok cx_ok (by kernel_rfl)) (prgOf_ok fns_ok (sumsA_ok hb)) n).1
noncomputable def envAg (k t : Int) : Env := ⟨fun _ => -9223372036854775808, fun _ => 9223372036854775807, fun _ _ _ => none, fun v m => bite (Nat.beq v 0 && ieq m 4) (some k) (bite (Nat.beq v 1 && ieq m 25) (some t) none), fun _ _ _ _ => none, [5]⟩
noncomputable def agRun (k t : Int) : Bool := okTrue ((run (envAg k t) (prgOf fnTab (sumsA (envAg k t))) 200).call 4 [.i .i64 (.lin 0 0), .i .i64 (.lin 1 0)] (heapZero 5))
theorem envAg_ok {a b k t : Int} (ha : -9223372036854775808 ≤ a ∧ a ≤ 9223372036854775807) (hb : -9223372036854775808 ≤ b ∧ b ≤ 9223372036854775807) (hk : within a 4 = k) (ht : within b 25 = t) :
    EnvOK (envAg k t) (renVars [5] fun v => if v = 0 then a else if v = 1 then b else 0) where
  lo v := by show -9223372036854775808 ≤ (if v = 0 then a else if v = 1 then b else 0); split; omega; split <;> omega
  hi v := by show (if v = 0 then a else if v = 1 then b else 0) ≤ 9223372036854775807; split; omega; split <;> omega
  rem v c m r h := by cases h
  wi v m r h := by
    simp only [envAg, bite_eq, Bool.and_eq_true, ieq_iff, decide_eq_true_eq] at h
    split at h
    · rename_i hv; cases h; rw [beqT hv.1, hv.2]; exact hk
    · split at h
      · rename_i hv; cases h; rw [beqT hv.1, hv.2]; exact ht
      · cases h
  nm _ _ _ _ _ _ _ h := by cases h
  byt := rfl
theorem again_of {a b k t : Int} (ha : -9223372036854775808 ≤ a ∧ a ≤ 9223372036854775807) (hb : -9223372036854775808 ≤ b ∧ b ≤ 9223372036854775807) (hk : within a 4 = k) (ht : within b 25 = t) (hr : agRun k t = true) (w : World) :
    Calls Tryz.prog 4 #[.int .i64 a, .int .i64 b] w fun e w' => e = .returned (.bool true) ∧ Kept w w' :=
  calls_true (sha := fun _ _ => 0) (callsA rfl 200) hr (envAg_ok ha hb hk ht) (fun _ => rfl) (fun _ => rfl) (fun _ => rfl)
    (us := [.int .i64 a, .int .i64 b]) ⟨_, _, ⟨a, by simp [IE.dn, renVars], rfl⟩, ⟨_, _, ⟨b, by simp [IE.dn, renVars], rfl⟩, rfl, rfl⟩, rfl⟩ w
theorem within_lt (a n : Int) (h : 1 ≤ n) : 0 ≤ within a n ∧ within a n < n := by
  have h5 : a.tmod n < n := Int.tmod_lt_of_pos a (by omega)
  have h6 : -n < a.tmod n := Int.lt_tmod_of_pos a (by omega)
  unfold within
  split <;> omega
end Go.SE
