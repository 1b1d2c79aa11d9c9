/- ReplicaAgain: the run at id 2, at each number of ticks. -/
import Derived.Test.YtbpfpjcacmgfeaaGreatDoorAgRun
set_option linter.unusedVariables false
set_option linter.unusedSimpArgs false
namespace Go.SE
open Go Go.SE Go.Proofs
theorem ag_2_0 : agRun 2 0 = true := by kernel_rfl
theorem ag_2_1 : agRun 2 1 = true := by kernel_rfl
theorem ag_2_2 : agRun 2 2 = true := by kernel_rfl
theorem ag_2_3 : agRun 2 3 = true := by kernel_rfl
theorem ag_2_4 : agRun 2 4 = true := by kernel_rfl
theorem ag_2_5 : agRun 2 5 = true := by kernel_rfl
theorem ag_2_6 : agRun 2 6 = true := by kernel_rfl
theorem ag_2_7 : agRun 2 7 = true := by kernel_rfl
theorem ag_2_8 : agRun 2 8 = true := by kernel_rfl
theorem ag_2_9 : agRun 2 9 = true := by kernel_rfl
theorem ag_2_10 : agRun 2 10 = true := by kernel_rfl
theorem ag_2_11 : agRun 2 11 = true := by kernel_rfl
theorem ag_2_12 : agRun 2 12 = true := by kernel_rfl
theorem ag_2_13 : agRun 2 13 = true := by kernel_rfl
theorem ag_2_14 : agRun 2 14 = true := by kernel_rfl
theorem ag_2_15 : agRun 2 15 = true := by kernel_rfl
theorem ag_2_16 : agRun 2 16 = true := by kernel_rfl
theorem ag_2_17 : agRun 2 17 = true := by kernel_rfl
theorem ag_2_18 : agRun 2 18 = true := by kernel_rfl
theorem ag_2_19 : agRun 2 19 = true := by kernel_rfl
theorem ag_2_20 : agRun 2 20 = true := by kernel_rfl
theorem ag_2_21 : agRun 2 21 = true := by kernel_rfl
theorem ag_2_22 : agRun 2 22 = true := by kernel_rfl
theorem ag_2_23 : agRun 2 23 = true := by kernel_rfl
theorem ag_2_24 : agRun 2 24 = true := by kernel_rfl
theorem ag_2 (t : Int) (h0 : 0 ≤ t) (h1 : t < 25) : agRun 2 t = true := by
  obtain ⟨n, rfl⟩ := Int.eq_ofNat_of_zero_le h0
  match n, h1 with
  | 0, _ => exact ag_2_0
  | 1, _ => exact ag_2_1
  | 2, _ => exact ag_2_2
  | 3, _ => exact ag_2_3
  | 4, _ => exact ag_2_4
  | 5, _ => exact ag_2_5
  | 6, _ => exact ag_2_6
  | 7, _ => exact ag_2_7
  | 8, _ => exact ag_2_8
  | 9, _ => exact ag_2_9
  | 10, _ => exact ag_2_10
  | 11, _ => exact ag_2_11
  | 12, _ => exact ag_2_12
  | 13, _ => exact ag_2_13
  | 14, _ => exact ag_2_14
  | 15, _ => exact ag_2_15
  | 16, _ => exact ag_2_16
  | 17, _ => exact ag_2_17
  | 18, _ => exact ag_2_18
  | 19, _ => exact ag_2_19
  | 20, _ => exact ag_2_20
  | 21, _ => exact ag_2_21
  | 22, _ => exact ag_2_22
  | 23, _ => exact ag_2_23
  | 24, _ => exact ag_2_24
  | n + 25, h => omega
end Go.SE
