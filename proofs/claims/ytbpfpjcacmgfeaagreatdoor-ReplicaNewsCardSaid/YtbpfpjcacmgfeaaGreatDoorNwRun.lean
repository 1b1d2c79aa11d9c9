/- What is run of the law, and what a run to true says; no condition. -/
import Derived.Test.YtbpfpjcacmgfeaaGreatDoorNwTabG
import Derived.Test.YtbpfpjcacmgfeaaGreatDoorNwApp
import Derived.Test.YtbpfpjcacmgfeaaGreatDoorNwCln
set_option linter.unusedVariables false
set_option linter.unusedSimpArgs false
namespace Go.SE
open Go Go.Proofs
/-! # ReplicaNews: what is run -/
noncomputable def sumsW (f : Nat) : Option Sum := bite (Nat.beq f 242) (some (apNone 193)) (bite (Nat.beq f 301) (some (apNone 269)) (bite (Nat.beq f 89) (some mapsClone) none))
theorem sumsW_ok {sha : List UInt8 → Nat → UInt8} {E : Env} : ∀ f s, sumsW f = some s → SumOK sha E Tryz.prog f s := by
  intro f s h
  unfold sumsW at h
  simp only [bite_eq] at h
  split at h
  · rename_i hf; cases h; rw [beqT hf]; exact app242_ok
  · split at h
    · rename_i hf; cases h; rw [beqT hf]; exact app301_ok
    · split at h
      · rename_i hf; cases h; rw [beqT hf]; exact clone89_ok
      · cases h
theorem callsW {sha : List UInt8 → Nat → UInt8} {E : Env} (n : Nat) : CallsOK sha E Tryz.prog (run E (prgOf fnTab sumsW) n) :=
  (run_sound cx_ok (dreg_ok cx_ok (by kernel_rfl)) (prgOf_ok fns_ok sumsW_ok) n).1
theorem wakes_run : okTrue ((run (envZero [5]) (prgOf fnTab sumsW) 100).call 10 [] (heapZero 5)) = true := by kernel_rfl
noncomputable def sumsN (f : Nat) : Option Sum := bite (Nat.beq f 10) (some (memo [] [.b true])) (sumsW f)
theorem sumsN_ok {sha : List UInt8 → Nat → UInt8} {E : Env} (hb : E.byt = [5]) : ∀ f s, sumsN f = some s → SumOK sha E Tryz.prog f s := by
  intro f s h
  unfold sumsN at h
  simp only [bite_eq] at h
  split at h
  · rename_i hf; cases h; rw [beqT hf]; exact memo_true hb (callsW 100) rfl rfl wakes_run
  · exact sumsW_ok f s h
theorem callsN {sha : List UInt8 → Nat → UInt8} {E : Env} (hb : E.byt = [5]) (n : Nat) : CallsOK sha E Tryz.prog (run E (prgOf fnTab sumsN) n) :=
  (run_sound cx_ok (dreg_ok cx_ok (by kernel_rfl)) (prgOf_ok fns_ok (sumsN_ok hb)) n).1
/-- variables: 0 F, 1 Clients, 2 id; a pair of bounds for each -/
noncomputable def envNw (fl fh cl ch il ih : Int) : Env :=
  ⟨fun v => bite (Nat.beq v 0) fl (bite (Nat.beq v 1) cl (bite (Nat.beq v 2) il 0)), fun v => bite (Nat.beq v 0) fh (bite (Nat.beq v 1) ch (bite (Nat.beq v 2) ih 0)),
   fun _ _ _ => none, fun _ _ => none, fun _ _ _ _ => none, [5]⟩
/-- a number that has one value is that value -/
noncomputable def argOf (v : Nat) (lo hi : Int) : V := bite (ieq lo hi) (.i .i64 (.lit lo)) (.i .i64 (.lin v 0))
noncomputable def nwRun (fl fh cl ch il ih : Int) : Bool := okTrue ((run (envNw fl fh cl ch il ih) (prgOf fnTab sumsN) 200).call 5 [.ag (.nd 2 1 (.one (argOf 0 fl fh)) (.one (argOf 1 cl ch))), argOf 2 il ih] (heapZero 5))
def nwX (a b d : Int) (v : Nat) : Int := if v = 0 then a else if v = 1 then b else if v = 2 then d else 0
theorem envNw_ok {a b d fl fh cl ch il ih : Int} (hf : fl ≤ a ∧ a ≤ fh) (hc : cl ≤ b ∧ b ≤ ch) (hi : il ≤ d ∧ d ≤ ih) : EnvOK (envNw fl fh cl ch il ih) (renVars [5] (nwX a b d)) where
  lo v := by
    show (envNw fl fh cl ch il ih).lo v ≤ nwX a b d v
    simp only [envNw, bite_eq, nwX]
    by_cases h0 : v = 0
    · subst h0; simpa using hf.1
    · by_cases h1 : v = 1
      · subst h1; simpa using hc.1
      · by_cases h2 : v = 2
        · subst h2; simpa using hi.1
        · rw [if_neg (fun h => h0 (beqT h)), if_neg (fun h => h1 (beqT h)), if_neg (fun h => h2 (beqT h)), if_neg h0, if_neg h1, if_neg h2]; omega
  hi v := by
    show nwX a b d v ≤ (envNw fl fh cl ch il ih).hi v
    simp only [envNw, bite_eq, nwX]
    by_cases h0 : v = 0
    · subst h0; simpa using hf.2
    · by_cases h1 : v = 1
      · subst h1; simpa using hc.2
      · by_cases h2 : v = 2
        · subst h2; simpa using hi.2
        · rw [if_neg (fun h => h0 (beqT h)), if_neg (fun h => h1 (beqT h)), if_neg (fun h => h2 (beqT h)), if_neg h0, if_neg h1, if_neg h2]; omega
  rem v c m e h := by cases h
  wi v m e h := by cases h
  nm _ _ _ _ _ _ _ h := by cases h
  byt := rfl
theorem argOf_VR {ρ : Ren} {v : Nat} {lo hi x : Int} (h : lo ≤ x ∧ x ≤ hi) (hx : ρ.x v = x) : VR ρ (argOf v lo hi) (.int .i64 x) := by
  unfold argOf
  rw [bite_eq]
  split
  · rename_i he
    rw [ieq_iff, decide_eq_true_eq] at he
    exact ⟨lo, rfl, by rw [show x = lo by omega]⟩
  · exact ⟨x, by simp [IE.dn, hx], rfl⟩
theorem news_of {a b d fl fh cl ch il ih : Int} (hf : fl ≤ a ∧ a ≤ fh) (hc : cl ≤ b ∧ b ≤ ch) (hi : il ≤ d ∧ d ≤ ih) (hrun : nwRun fl fh cl ch il ih = true) (w : World) :
    Calls Tryz.prog 5 #[.agg #[.int .i64 a, .int .i64 b], .int .i64 d] w fun e w' => e = .returned (.bool true) ∧ Kept w w' :=
  calls_true (sha := fun _ _ => 0) (callsN rfl 200) hrun (envNw_ok hf hc hi) (fun _ => rfl) (fun _ => rfl) (fun _ => rfl)
    (us := [.agg #[.int .i64 a, .int .i64 b], .int .i64 d]) ⟨_, _, ⟨[_, _], ⟨[_], [_], ⟨_, argOf_VR hf rfl, rfl⟩, ⟨_, argOf_VR hc rfl, rfl⟩, rfl, rfl, rfl⟩, rfl⟩, ⟨_, _, argOf_VR hi rfl, rfl, rfl⟩, rfl⟩ w
end Go.SE
