/- What is run of the law, and what a run to true says; no condition. -/
import Derived.Test.YtbpfpjcacmgfeaaGreatDoorFlTabG
import Derived.Test.YtbpfpjcacmgfeaaGreatDoorFlApp
import Derived.Test.YtbpfpjcacmgfeaaGreatDoorFlWit
set_option linter.unusedVariables false
set_option linter.unusedSimpArgs false
namespace Go.SE
open Go Go.Proofs
/-! # ReplicaFloors: what is run -/
noncomputable def sumsW (f : Nat) : Option Sum := bite (Nat.beq f 242) (some (apNone 193)) (bite (Nat.beq f 301) (some (apNone 269)) none)
theorem sumsW_ok {sha : List UInt8 → Nat → UInt8} {E : Env} : ∀ f s, sumsW f = some s → SumOK sha E Tryz.prog f s := by
  intro f s h
  unfold sumsW at h
  simp only [bite_eq] at h
  split at h
  · rename_i hf; cases h; rw [beqT hf]; exact app242_ok
  · split at h
    · rename_i hf; cases h; rw [beqT hf]; exact app301_ok
    · cases h
theorem callsW {sha : List UInt8 → Nat → UInt8} {E : Env} (n : Nat) : CallsOK sha E Tryz.prog (run E (prgOf fnTab sumsW) n) :=
  (run_sound cx_ok (dreg_ok cx_ok (by kernel_rfl)) (prgOf_ok fns_ok sumsW_ok) n).1
theorem wakes_run : okTrue ((run (envZero [5]) (prgOf fnTab sumsW) 100).call 10 [] (heapZero 5)) = true := by kernel_rfl
/-- the commitment's hash -/
def ofArgs : List V := [.ag (.nd 2 1 (.one (.i .i64 (.lit 0))) (.one (.i .i64 (.lit 1)))), .ag z35, .ns]
def ofHash : V := .ag (CR.ofL [.i .u8 (.lit (.ofNat 118)), .i .u8 (.lit (.ofNat 138)), .i .u8 (.lit (.ofNat 137)), .i .u8 (.lit (.ofNat 0)), .i .u8 (.lit (.ofNat 199)), .i .u8 (.lit (.ofNat 185)), .i .u8 (.lit (.ofNat 67)), .i .u8 (.lit (.ofNat 24)), .i .u8 (.lit (.ofNat 169)), .i .u8 (.lit (.ofNat 242)), .i .u8 (.lit (.ofNat 5)), .i .u8 (.lit (.ofNat 76)), .i .u8 (.lit (.ofNat 72)), .i .u8 (.lit (.ofNat 138)), .i .u8 (.lit (.ofNat 34)), .i .u8 (.lit (.ofNat 116)), .i .u8 (.lit (.ofNat 243)), .i .u8 (.lit (.ofNat 217)), .i .u8 (.lit (.ofNat 244)), .i .u8 (.lit (.ofNat 127)), .i .u8 (.lit (.ofNat 29)), .i .u8 (.lit (.ofNat 188)), .i .u8 (.lit (.ofNat 201)), .i .u8 (.lit (.ofNat 126)), .i .u8 (.lit (.ofNat 217)), .i .u8 (.lit (.ofNat 138)), .i .u8 (.lit (.ofNat 10)), .i .u8 (.lit (.ofNat 177)), .i .u8 (.lit (.ofNat 159)), .i .u8 (.lit (.ofNat 180)), .i .u8 (.lit (.ofNat 227)), .i .u8 (.lit (.ofNat 18))])
theorem of_run : okIs ofHash ((run (envZero [5]) (prgOf fnTab sumsW) 500).call 29 ofArgs (heapZero 5)) = true := by kernel_rfl
noncomputable def sumsF (E : Env) (f : Nat) : Option Sum := bite (Nat.beq f 7) (some (withinS E)) (bite (Nat.beq f 10) (some (memo [] [.b true])) (bite (Nat.beq f 29) (some (memo ofArgs [ofHash])) (sumsW f)))
theorem sumsF_ok {sha : List UInt8 → Nat → UInt8} {E : Env} (hb : E.byt = [5]) : ∀ f s, sumsF E f = some s → SumOK sha E Tryz.prog f s := by
  intro f s h
  unfold sumsF at h
  simp only [bite_eq] at h
  split at h
  · rename_i hf; cases h; rw [beqT hf]; exact within_ok_
  · split at h
    · rename_i hf; cases h; rw [beqT hf]; exact memo_true hb (callsW 100) rfl rfl wakes_run
    · split at h
      · rename_i hf; cases h; rw [beqT hf]; exact memo_is hb (callsW 500) (by kernel_rfl) (by kernel_rfl) (by kernel_rfl) (by kernel_rfl) of_run
      · exact sumsW_ok f s h
theorem callsF {sha : List UInt8 → Nat → UInt8} {E : Env} (hb : E.byt = [5]) (n : Nat) : CallsOK sha E Tryz.prog (run E (prgOf fnTab (sumsF E)) n) :=
  (run_sound cx_ok (dreg_ok cx_ok (by kernel_rfl)) (prgOf_ok fns_ok (sumsF_ok hb)) n).1
/-- variables: 0 ticks, 1 round, 2 time, 3 time's remainder by 14 -/
noncomputable def envFl (t r lo hi : Int) : Env :=
  ⟨fun v => bite (Nat.beq v 2) 0 (bite (Nat.beq v 3) lo (-9223372036854775808)), fun v => bite (Nat.beq v 2) 18446744073709551615 (bite (Nat.beq v 3) hi 9223372036854775807),
   fun v c m => bite (Nat.beq v 2 && ieq c 0 && ieq m 14) (some (.lin 3 0)) none,
   fun v m => bite (Nat.beq v 0 && ieq m 9) (some t) (bite (Nat.beq v 1 && ieq m 3) (some r) none), fun _ _ _ _ => none, [5]⟩
noncomputable def flRun (t r lo hi : Int) : Bool := okTrue ((run (envFl t r lo hi) (prgOf fnTab (sumsF (envFl t r lo hi))) 200).call 3 [.i .i64 (.lin 0 0), .i .i64 (.lin 1 0), .i .u64 (.lin 2 0)] (heapZero 5))
def flX (a b d : Int) (v : Nat) : Int := if v = 0 then a else if v = 1 then b else if v = 2 then d else if v = 3 then d.tmod 14 else 0
theorem envFl_ok {a b d t r lo hi : Int} (ha : -9223372036854775808 ≤ a ∧ a ≤ 9223372036854775807) (hb : -9223372036854775808 ≤ b ∧ b ≤ 9223372036854775807) (hd : 0 ≤ d ∧ d ≤ 18446744073709551615)
    (ht : within a 9 = t) (hr : within b 3 = r) (hl : lo ≤ d.tmod 14) (hh : d.tmod 14 ≤ hi) : EnvOK (envFl t r lo hi) (renVars [5] (flX a b d)) where
  lo v := by
    show (envFl t r lo hi).lo v ≤ flX a b d v
    simp only [envFl, bite_eq, flX]
    by_cases h2 : v = 2
    · subst h2; simpa using hd.1
    · by_cases h3 : v = 3
      · subst h3; simpa using hl
      · rw [if_neg (fun h => h2 (beqT h)), if_neg (fun h => h3 (beqT h)), if_neg h2, if_neg h3]
        split; omega; split <;> omega
  hi v := by
    show flX a b d v ≤ (envFl t r lo hi).hi v
    simp only [envFl, bite_eq, flX]
    by_cases h2 : v = 2
    · subst h2; simpa using hd.2
    · by_cases h3 : v = 3
      · subst h3; simpa using hh
      · rw [if_neg (fun h => h2 (beqT h)), if_neg (fun h => h3 (beqT h)), if_neg h2, if_neg h3]
        split; omega; split <;> omega
  rem v c m e h := by
    simp only [envFl, bite_eq, Bool.and_eq_true, ieq_iff, decide_eq_true_eq] at h
    split at h
    · rename_i hv
      obtain ⟨⟨h1, h2⟩, h3⟩ := hv
      cases h
      rw [beqT h1, h2, h3]
      exact ⟨by omega, by simp [IE.dn, renVars, flX]⟩
    · cases h
  wi v m e h := by
    simp only [envFl, bite_eq, Bool.and_eq_true, ieq_iff, decide_eq_true_eq] at h
    split at h
    · rename_i hv; cases h; rw [beqT hv.1, hv.2]; exact ht
    · split at h
      · rename_i hv; cases h; rw [beqT hv.1, hv.2]; exact hr
      · cases h
  nm _ _ _ _ _ _ _ h := by cases h
  byt := rfl
theorem floors_of {a b d t r lo hi : Int} (ha : -9223372036854775808 ≤ a ∧ a ≤ 9223372036854775807) (hb : -9223372036854775808 ≤ b ∧ b ≤ 9223372036854775807) (hd : 0 ≤ d ∧ d ≤ 18446744073709551615)
    (ht : within a 9 = t) (hr : within b 3 = r) (hl : lo ≤ d.tmod 14) (hh : d.tmod 14 ≤ hi) (hrun : flRun t r lo hi = true) (w : World) :
    Calls Tryz.prog 3 #[.int .i64 a, .int .i64 b, .int .u64 d] w fun e w' => e = .returned (.bool true) ∧ Kept w w' :=
  calls_true (sha := fun _ _ => 0) (callsF rfl 200) hrun (envFl_ok ha hb hd ht hr hl hh) (fun _ => rfl) (fun _ => rfl) (fun _ => rfl)
    (us := [.int .i64 a, .int .i64 b, .int .u64 d]) ⟨_, _, ⟨a, by simp [IE.dn, renVars, flX], rfl⟩, ⟨_, _, ⟨b, by simp [IE.dn, renVars, flX], rfl⟩, ⟨_, _, ⟨d, by simp [IE.dn, renVars, flX], rfl⟩, rfl, rfl⟩, rfl⟩, rfl⟩ w
theorem within_lt (a n : Int) (h : 1 ≤ n) : 0 ≤ within a n ∧ within a n < n := by
  have h5 : a.tmod n < n := Int.tmod_lt_of_pos a (by omega)
  have h6 : -n < a.tmod n := Int.lt_tmod_of_pos a (by omega)
  unfold within
  split <;> omega
end Go.SE
