/- ReplicaAgain: the run at id 1, at each number of ticks. -/
import Derived.Test.YtbpfpjcacmgfeaaGreatDoorAgRun
set_option linter.unusedVariables false
set_option linter.unusedSimpArgs false
namespace Go.SE
open Go Go.SE Go.Proofs
theorem ag_1_0 : agRun 1 0 = true := by kernel_rfl
theorem ag_1_1 : agRun 1 1 = true := by kernel_rfl
theorem ag_1_2 : agRun 1 2 = true := by kernel_rfl
theorem ag_1_3 : agRun 1 3 = true := by kernel_rfl
theorem ag_1_4 : agRun 1 4 = true := by kernel_rfl
theorem ag_1_5 : agRun 1 5 = true := by kernel_rfl
theorem ag_1_6 : agRun 1 6 = true := by kernel_rfl
theorem ag_1_7 : agRun 1 7 = true := by kernel_rfl
theorem ag_1_8 : agRun 1 8 = true := by kernel_rfl
theorem ag_1_9 : agRun 1 9 = true := by kernel_rfl
theorem ag_1_10 : agRun 1 10 = true := by kernel_rfl
theorem ag_1_11 : agRun 1 11 = true := by kernel_rfl
theorem ag_1_12 : agRun 1 12 = true := by kernel_rfl
theorem ag_1_13 : agRun 1 13 = true := by kernel_rfl
theorem ag_1_14 : agRun 1 14 = true := by kernel_rfl
theorem ag_1_15 : agRun 1 15 = true := by kernel_rfl
theorem ag_1_16 : agRun 1 16 = true := by kernel_rfl
theorem ag_1_17 : agRun 1 17 = true := by kernel_rfl
theorem ag_1_18 : agRun 1 18 = true := by kernel_rfl
theorem ag_1_19 : agRun 1 19 = true := by kernel_rfl
theorem ag_1_20 : agRun 1 20 = true := by kernel_rfl
theorem ag_1_21 : agRun 1 21 = true := by kernel_rfl
theorem ag_1_22 : agRun 1 22 = true := by kernel_rfl
theorem ag_1_23 : agRun 1 23 = true := by kernel_rfl
theorem ag_1_24 : agRun 1 24 = true := by kernel_rfl
theorem ag_1 (t : Int) (h0 : 0 ≤ t) (h1 : t < 25) : agRun 1 t = true := by
  obtain ⟨n, rfl⟩ := Int.eq_ofNat_of_zero_le h0
  match n, h1 with
  | 0, _ => exact ag_1_0
  | 1, _ => exact ag_1_1
  | 2, _ => exact ag_1_2
  | 3, _ => exact ag_1_3
  | 4, _ => exact ag_1_4
  | 5, _ => exact ag_1_5
  | 6, _ => exact ag_1_6
  | 7, _ => exact ag_1_7
  | 8, _ => exact ag_1_8
  | 9, _ => exact ag_1_9
  | 10, _ => exact ag_1_10
  | 11, _ => exact ag_1_11
  | 12, _ => exact ag_1_12
  | 13, _ => exact ag_1_13
  | 14, _ => exact ag_1_14
  | 15, _ => exact ag_1_15
  | 16, _ => exact ag_1_16
  | 17, _ => exact ag_1_17
  | 18, _ => exact ag_1_18
  | 19, _ => exact ag_1_19
  | 20, _ => exact ag_1_20
  | 21, _ => exact ag_1_21
  | 22, _ => exact ag_1_22
  | 23, _ => exact ag_1_23
  | 24, _ => exact ag_1_24
  | n + 25, h => omega
end Go.SE
