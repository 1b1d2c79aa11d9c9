/- ReplicaAgain: the run at id 3, at each number of ticks. -/
import Derived.Test.YtbpfpjcacmgfeaaGreatDoorAgRun
set_option linter.unusedVariables false
set_option linter.unusedSimpArgs false
namespace Go.SE
open Go Go.SE Go.Proofs
theorem ag_3_0 : agRun 3 0 = true := by kernel_rfl
theorem ag_3_1 : agRun 3 1 = true := by kernel_rfl
theorem ag_3_2 : agRun 3 2 = true := by kernel_rfl
theorem ag_3_3 : agRun 3 3 = true := by kernel_rfl
theorem ag_3_4 : agRun 3 4 = true := by kernel_rfl
theorem ag_3_5 : agRun 3 5 = true := by kernel_rfl
theorem ag_3_6 : agRun 3 6 = true := by kernel_rfl
theorem ag_3_7 : agRun 3 7 = true := by kernel_rfl
theorem ag_3_8 : agRun 3 8 = true := by kernel_rfl
theorem ag_3_9 : agRun 3 9 = true := by kernel_rfl
theorem ag_3_10 : agRun 3 10 = true := by kernel_rfl
theorem ag_3_11 : agRun 3 11 = true := by kernel_rfl
theorem ag_3_12 : agRun 3 12 = true := by kernel_rfl
theorem ag_3_13 : agRun 3 13 = true := by kernel_rfl
theorem ag_3_14 : agRun 3 14 = true := by kernel_rfl
theorem ag_3_15 : agRun 3 15 = true := by kernel_rfl
theorem ag_3_16 : agRun 3 16 = true := by kernel_rfl
theorem ag_3_17 : agRun 3 17 = true := by kernel_rfl
theorem ag_3_18 : agRun 3 18 = true := by kernel_rfl
theorem ag_3_19 : agRun 3 19 = true := by kernel_rfl
theorem ag_3_20 : agRun 3 20 = true := by kernel_rfl
theorem ag_3_21 : agRun 3 21 = true := by kernel_rfl
theorem ag_3_22 : agRun 3 22 = true := by kernel_rfl
theorem ag_3_23 : agRun 3 23 = true := by kernel_rfl
theorem ag_3_24 : agRun 3 24 = true := by kernel_rfl
theorem ag_3 (t : Int) (h0 : 0 ≤ t) (h1 : t < 25) : agRun 3 t = true := by
  obtain ⟨n, rfl⟩ := Int.eq_ofNat_of_zero_le h0
  match n, h1 with
  | 0, _ => exact ag_3_0
  | 1, _ => exact ag_3_1
  | 2, _ => exact ag_3_2
  | 3, _ => exact ag_3_3
  | 4, _ => exact ag_3_4
  | 5, _ => exact ag_3_5
  | 6, _ => exact ag_3_6
  | 7, _ => exact ag_3_7
  | 8, _ => exact ag_3_8
  | 9, _ => exact ag_3_9
  | 10, _ => exact ag_3_10
  | 11, _ => exact ag_3_11
  | 12, _ => exact ag_3_12
  | 13, _ => exact ag_3_13
  | 14, _ => exact ag_3_14
  | 15, _ => exact ag_3_15
  | 16, _ => exact ag_3_16
  | 17, _ => exact ag_3_17
  | 18, _ => exact ag_3_18
  | 19, _ => exact ag_3_19
  | 20, _ => exact ag_3_20
  | 21, _ => exact ag_3_21
  | 22, _ => exact ag_3_22
  | 23, _ => exact ag_3_23
  | 24, _ => exact ag_3_24
  | n + 25, h => omega
end Go.SE
