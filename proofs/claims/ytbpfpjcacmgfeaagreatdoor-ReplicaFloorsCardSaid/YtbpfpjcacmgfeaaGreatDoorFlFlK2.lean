/- ReplicaFloors: the run at round 2, at each number of ticks, with the time in each range. -/
import Derived.Test.YtbpfpjcacmgfeaaGreatDoorFlRun
set_option linter.unusedVariables false
set_option linter.unusedSimpArgs false
namespace Go.SE
open Go Go.SE Go.Proofs
theorem fl_2_0_0 : flRun 0 2 0 0 = true := by kernel_rfl
theorem fl_2_0_1 : flRun 0 2 1 1 = true := by kernel_rfl
theorem fl_2_0_2 : flRun 0 2 2 13 = true := by kernel_rfl
theorem fl_2_0 (m : Int) (h0 : 0 ≤ m) (h1 : m < 14) : ∃ lo hi, lo ≤ m ∧ m ≤ hi ∧ flRun 0 2 lo hi = true := by
  rcases Int.lt_or_le m 1 with h | h
  · exact ⟨_, _, by omega, by omega, fl_2_0_0⟩
  rcases Int.lt_or_le m 2 with h3 | h3
  · exact ⟨_, _, by omega, by omega, fl_2_0_1⟩
  · exact ⟨_, _, by omega, by omega, fl_2_0_2⟩
theorem fl_2_1_0 : flRun 1 2 0 0 = true := by kernel_rfl
theorem fl_2_1_1 : flRun 1 2 1 1 = true := by kernel_rfl
theorem fl_2_1_2 : flRun 1 2 2 2 = true := by kernel_rfl
theorem fl_2_1_3 : flRun 1 2 3 13 = true := by kernel_rfl
theorem fl_2_1 (m : Int) (h0 : 0 ≤ m) (h1 : m < 14) : ∃ lo hi, lo ≤ m ∧ m ≤ hi ∧ flRun 1 2 lo hi = true := by
  rcases Int.lt_or_le m 1 with h | h
  · exact ⟨_, _, by omega, by omega, fl_2_1_0⟩
  rcases Int.lt_or_le m 2 with h2 | h2
  · exact ⟨_, _, by omega, by omega, fl_2_1_1⟩
  rcases Int.lt_or_le m 3 with h3 | h3
  · exact ⟨_, _, by omega, by omega, fl_2_1_2⟩
  · exact ⟨_, _, by omega, by omega, fl_2_1_3⟩
theorem fl_2_2_0 : flRun 2 2 0 0 = true := by kernel_rfl
theorem fl_2_2_1 : flRun 2 2 1 2 = true := by kernel_rfl
theorem fl_2_2_3 : flRun 2 2 3 3 = true := by kernel_rfl
theorem fl_2_2_4 : flRun 2 2 4 13 = true := by kernel_rfl
theorem fl_2_2 (m : Int) (h0 : 0 ≤ m) (h1 : m < 14) : ∃ lo hi, lo ≤ m ∧ m ≤ hi ∧ flRun 2 2 lo hi = true := by
  rcases Int.lt_or_le m 1 with h | h
  · exact ⟨_, _, by omega, by omega, fl_2_2_0⟩
  rcases Int.lt_or_le m 3 with h2 | h2
  · exact ⟨_, _, by omega, by omega, fl_2_2_1⟩
  rcases Int.lt_or_le m 4 with h3 | h3
  · exact ⟨_, _, by omega, by omega, fl_2_2_3⟩
  · exact ⟨_, _, by omega, by omega, fl_2_2_4⟩
theorem fl_2_3_0 : flRun 3 2 0 0 = true := by kernel_rfl
theorem fl_2_3_1 : flRun 3 2 1 3 = true := by kernel_rfl
theorem fl_2_3_4 : flRun 3 2 4 4 = true := by kernel_rfl
theorem fl_2_3_5 : flRun 3 2 5 13 = true := by kernel_rfl
theorem fl_2_3 (m : Int) (h0 : 0 ≤ m) (h1 : m < 14) : ∃ lo hi, lo ≤ m ∧ m ≤ hi ∧ flRun 3 2 lo hi = true := by
  rcases Int.lt_or_le m 1 with h | h
  · exact ⟨_, _, by omega, by omega, fl_2_3_0⟩
  rcases Int.lt_or_le m 4 with h2 | h2
  · exact ⟨_, _, by omega, by omega, fl_2_3_1⟩
  rcases Int.lt_or_le m 5 with h3 | h3
  · exact ⟨_, _, by omega, by omega, fl_2_3_4⟩
  · exact ⟨_, _, by omega, by omega, fl_2_3_5⟩
theorem fl_2_4_0 : flRun 4 2 0 0 = true := by kernel_rfl
theorem fl_2_4_1 : flRun 4 2 1 4 = true := by kernel_rfl
theorem fl_2_4_5 : flRun 4 2 5 5 = true := by kernel_rfl
theorem fl_2_4_6 : flRun 4 2 6 13 = true := by kernel_rfl
theorem fl_2_4 (m : Int) (h0 : 0 ≤ m) (h1 : m < 14) : ∃ lo hi, lo ≤ m ∧ m ≤ hi ∧ flRun 4 2 lo hi = true := by
  rcases Int.lt_or_le m 1 with h | h
  · exact ⟨_, _, by omega, by omega, fl_2_4_0⟩
  rcases Int.lt_or_le m 5 with h2 | h2
  · exact ⟨_, _, by omega, by omega, fl_2_4_1⟩
  rcases Int.lt_or_le m 6 with h3 | h3
  · exact ⟨_, _, by omega, by omega, fl_2_4_5⟩
  · exact ⟨_, _, by omega, by omega, fl_2_4_6⟩
theorem fl_2_5_0 : flRun 5 2 0 0 = true := by kernel_rfl
theorem fl_2_5_1 : flRun 5 2 1 5 = true := by kernel_rfl
theorem fl_2_5_6 : flRun 5 2 6 6 = true := by kernel_rfl
theorem fl_2_5_7 : flRun 5 2 7 13 = true := by kernel_rfl
theorem fl_2_5 (m : Int) (h0 : 0 ≤ m) (h1 : m < 14) : ∃ lo hi, lo ≤ m ∧ m ≤ hi ∧ flRun 5 2 lo hi = true := by
  rcases Int.lt_or_le m 1 with h | h
  · exact ⟨_, _, by omega, by omega, fl_2_5_0⟩
  rcases Int.lt_or_le m 6 with h2 | h2
  · exact ⟨_, _, by omega, by omega, fl_2_5_1⟩
  rcases Int.lt_or_le m 7 with h3 | h3
  · exact ⟨_, _, by omega, by omega, fl_2_5_6⟩
  · exact ⟨_, _, by omega, by omega, fl_2_5_7⟩
theorem fl_2_6_0 : flRun 6 2 0 0 = true := by kernel_rfl
theorem fl_2_6_1 : flRun 6 2 1 6 = true := by kernel_rfl
theorem fl_2_6_7 : flRun 6 2 7 7 = true := by kernel_rfl
theorem fl_2_6_8 : flRun 6 2 8 13 = true := by kernel_rfl
theorem fl_2_6 (m : Int) (h0 : 0 ≤ m) (h1 : m < 14) : ∃ lo hi, lo ≤ m ∧ m ≤ hi ∧ flRun 6 2 lo hi = true := by
  rcases Int.lt_or_le m 1 with h | h
  · exact ⟨_, _, by omega, by omega, fl_2_6_0⟩
  rcases Int.lt_or_le m 7 with h2 | h2
  · exact ⟨_, _, by omega, by omega, fl_2_6_1⟩
  rcases Int.lt_or_le m 8 with h3 | h3
  · exact ⟨_, _, by omega, by omega, fl_2_6_7⟩
  · exact ⟨_, _, by omega, by omega, fl_2_6_8⟩
theorem fl_2_7_0 : flRun 7 2 0 0 = true := by kernel_rfl
theorem fl_2_7_1 : flRun 7 2 1 7 = true := by kernel_rfl
theorem fl_2_7_8 : flRun 7 2 8 8 = true := by kernel_rfl
theorem fl_2_7_9 : flRun 7 2 9 13 = true := by kernel_rfl
theorem fl_2_7 (m : Int) (h0 : 0 ≤ m) (h1 : m < 14) : ∃ lo hi, lo ≤ m ∧ m ≤ hi ∧ flRun 7 2 lo hi = true := by
  rcases Int.lt_or_le m 1 with h | h
  · exact ⟨_, _, by omega, by omega, fl_2_7_0⟩
  rcases Int.lt_or_le m 8 with h2 | h2
  · exact ⟨_, _, by omega, by omega, fl_2_7_1⟩
  rcases Int.lt_or_le m 9 with h3 | h3
  · exact ⟨_, _, by omega, by omega, fl_2_7_8⟩
  · exact ⟨_, _, by omega, by omega, fl_2_7_9⟩
theorem fl_2_8_0 : flRun 8 2 0 0 = true := by kernel_rfl
theorem fl_2_8_1 : flRun 8 2 1 8 = true := by kernel_rfl
theorem fl_2_8_9 : flRun 8 2 9 9 = true := by kernel_rfl
theorem fl_2_8_10 : flRun 8 2 10 13 = true := by kernel_rfl
theorem fl_2_8 (m : Int) (h0 : 0 ≤ m) (h1 : m < 14) : ∃ lo hi, lo ≤ m ∧ m ≤ hi ∧ flRun 8 2 lo hi = true := by
  rcases Int.lt_or_le m 1 with h | h
  · exact ⟨_, _, by omega, by omega, fl_2_8_0⟩
  rcases Int.lt_or_le m 9 with h2 | h2
  · exact ⟨_, _, by omega, by omega, fl_2_8_1⟩
  rcases Int.lt_or_le m 10 with h3 | h3
  · exact ⟨_, _, by omega, by omega, fl_2_8_9⟩
  · exact ⟨_, _, by omega, by omega, fl_2_8_10⟩
theorem fl_2 (t m : Int) (h2 : 0 ≤ t) (h3 : t < 9) (h0 : 0 ≤ m) (h1 : m < 14) : ∃ lo hi, lo ≤ m ∧ m ≤ hi ∧ flRun t 2 lo hi = true := by
  obtain ⟨n, rfl⟩ := Int.eq_ofNat_of_zero_le h2
  match n, h3 with
  | 0, _ => exact fl_2_0 m h0 h1
  | 1, _ => exact fl_2_1 m h0 h1
  | 2, _ => exact fl_2_2 m h0 h1
  | 3, _ => exact fl_2_3 m h0 h1
  | 4, _ => exact fl_2_4 m h0 h1
  | 5, _ => exact fl_2_5 m h0 h1
  | 6, _ => exact fl_2_6 m h0 h1
  | 7, _ => exact fl_2_7 m h0 h1
  | 8, _ => exact fl_2_8 m h0 h1
  | n + 9, h => omega
end Go.SE
