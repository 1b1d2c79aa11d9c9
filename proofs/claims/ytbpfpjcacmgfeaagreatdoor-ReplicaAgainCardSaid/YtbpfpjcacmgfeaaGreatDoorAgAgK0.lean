/- ReplicaAgain: the run at id 0, at each number of ticks. -/
import Derived.Test.YtbpfpjcacmgfeaaGreatDoorAgRun
set_option linter.unusedVariables false
set_option linter.unusedSimpArgs false
namespace Go.SE
open Go Go.SE Go.Proofs
theorem ag_0_0 : agRun 0 0 = true := by kernel_rfl
theorem ag_0_1 : agRun 0 1 = true := by kernel_rfl
theorem ag_0_2 : agRun 0 2 = true := by kernel_rfl
theorem ag_0_3 : agRun 0 3 = true := by kernel_rfl
theorem ag_0_4 : agRun 0 4 = true := by kernel_rfl
theorem ag_0_5 : agRun 0 5 = true := by kernel_rfl
theorem ag_0_6 : agRun 0 6 = true := by kernel_rfl
theorem ag_0_7 : agRun 0 7 = true := by kernel_rfl
theorem ag_0_8 : agRun 0 8 = true := by kernel_rfl
theorem ag_0_9 : agRun 0 9 = true := by kernel_rfl
theorem ag_0_10 : agRun 0 10 = true := by kernel_rfl
theorem ag_0_11 : agRun 0 11 = true := by kernel_rfl
theorem ag_0_12 : agRun 0 12 = true := by kernel_rfl
theorem ag_0_13 : agRun 0 13 = true := by kernel_rfl
theorem ag_0_14 : agRun 0 14 = true := by kernel_rfl
theorem ag_0_15 : agRun 0 15 = true := by kernel_rfl
theorem ag_0_16 : agRun 0 16 = true := by kernel_rfl
theorem ag_0_17 : agRun 0 17 = true := by kernel_rfl
theorem ag_0_18 : agRun 0 18 = true := by kernel_rfl
theorem ag_0_19 : agRun 0 19 = true := by kernel_rfl
theorem ag_0_20 : agRun 0 20 = true := by kernel_rfl
theorem ag_0_21 : agRun 0 21 = true := by kernel_rfl
theorem ag_0_22 : agRun 0 22 = true := by kernel_rfl
theorem ag_0_23 : agRun 0 23 = true := by kernel_rfl
theorem ag_0_24 : agRun 0 24 = true := by kernel_rfl
theorem ag_0 (t : Int) (h0 : 0 ≤ t) (h1 : t < 25) : agRun 0 t = true := by
  obtain ⟨n, rfl⟩ := Int.eq_ofNat_of_zero_le h0
  match n, h1 with
  | 0, _ => exact ag_0_0
  | 1, _ => exact ag_0_1
  | 2, _ => exact ag_0_2
  | 3, _ => exact ag_0_3
  | 4, _ => exact ag_0_4
  | 5, _ => exact ag_0_5
  | 6, _ => exact ag_0_6
  | 7, _ => exact ag_0_7
  | 8, _ => exact ag_0_8
  | 9, _ => exact ag_0_9
  | 10, _ => exact ag_0_10
  | 11, _ => exact ag_0_11
  | 12, _ => exact ag_0_12
  | 13, _ => exact ag_0_13
  | 14, _ => exact ag_0_14
  | 15, _ => exact ag_0_15
  | 16, _ => exact ag_0_16
  | 17, _ => exact ag_0_17
  | 18, _ => exact ag_0_18
  | 19, _ => exact ag_0_19
  | 20, _ => exact ag_0_20
  | 21, _ => exact ag_0_21
  | 22, _ => exact ag_0_22
  | 23, _ => exact ag_0_23
  | 24, _ => exact ag_0_24
  | n + 25, h => omega
end Go.SE
