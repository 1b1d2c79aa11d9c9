/- ReplicaNews: the run in each class of F, Clients and id. -/
import Derived.Test.YtbpfpjcacmgfeaaGreatDoorNwRun
set_option linter.unusedVariables false
set_option linter.unusedSimpArgs false
namespace Go.SE
open Go Go.SE Go.Proofs
theorem nw_0 : nwRun (-9223372036854775808) 0 (-9223372036854775808) 9223372036854775807 (-9223372036854775808) 9223372036854775807 = true := by kernel_rfl
theorem nw_1 : nwRun 22 9223372036854775807 (-9223372036854775808) 9223372036854775807 (-9223372036854775808) 9223372036854775807 = true := by kernel_rfl
theorem nw_2 : nwRun 1 1 (-9223372036854775808) 0 (-9223372036854775808) 9223372036854775807 = true := by kernel_rfl
theorem nw_3 : nwRun 1 1 101 9223372036854775807 (-9223372036854775808) 9223372036854775807 = true := by kernel_rfl
theorem nw_4 : nwRun 1 1 1 100 (-9223372036854775808) (-1) = true := by kernel_rfl
theorem nw_5 : nwRun 1 1 1 100 4 9223372036854775807 = true := by kernel_rfl
theorem nw_6 : nwRun 1 1 1 100 0 0 = true := by kernel_rfl
theorem nw_7 : nwRun 1 1 1 100 1 3 = true := by kernel_rfl
theorem nw_8 : nwRun 2 2 (-9223372036854775808) 0 (-9223372036854775808) 9223372036854775807 = true := by kernel_rfl
theorem nw_9 : nwRun 2 2 101 9223372036854775807 (-9223372036854775808) 9223372036854775807 = true := by kernel_rfl
theorem nw_10 : nwRun 2 2 1 100 (-9223372036854775808) (-1) = true := by kernel_rfl
theorem nw_11 : nwRun 2 2 1 100 7 9223372036854775807 = true := by kernel_rfl
theorem nw_12 : nwRun 2 2 1 100 0 0 = true := by kernel_rfl
theorem nw_13 : nwRun 2 2 1 100 1 6 = true := by kernel_rfl
theorem nw_14 : nwRun 3 3 (-9223372036854775808) 0 (-9223372036854775808) 9223372036854775807 = true := by kernel_rfl
theorem nw_15 : nwRun 3 3 101 9223372036854775807 (-9223372036854775808) 9223372036854775807 = true := by kernel_rfl
theorem nw_16 : nwRun 3 3 1 100 (-9223372036854775808) (-1) = true := by kernel_rfl
theorem nw_17 : nwRun 3 3 1 100 10 9223372036854775807 = true := by kernel_rfl
theorem nw_18 : nwRun 3 3 1 100 0 0 = true := by kernel_rfl
theorem nw_19 : nwRun 3 3 1 100 1 9 = true := by kernel_rfl
theorem nw_20 : nwRun 4 21 (-9223372036854775808) 0 (-9223372036854775808) 9223372036854775807 = true := by kernel_rfl
theorem nw_21 : nwRun 4 21 101 9223372036854775807 (-9223372036854775808) 9223372036854775807 = true := by kernel_rfl
theorem nw_22 : nwRun 4 21 1 100 (-9223372036854775808) (-1) = true := by kernel_rfl
theorem nw_23 : nwRun 4 21 1 100 10 9223372036854775807 = true := by kernel_rfl
theorem nw_24 : nwRun 4 21 1 100 0 0 = true := by kernel_rfl
theorem nw_25 : nwRun 4 21 1 100 1 9 = true := by kernel_rfl
theorem news_all (a b d : Int) (ha : -9223372036854775808 ≤ a ∧ a ≤ 9223372036854775807) (hb : -9223372036854775808 ≤ b ∧ b ≤ 9223372036854775807) (hd : -9223372036854775808 ≤ d ∧ d ≤ 9223372036854775807) :
    ∃ fl fh cl ch il ih, (fl ≤ a ∧ a ≤ fh) ∧ (cl ≤ b ∧ b ≤ ch) ∧ (il ≤ d ∧ d ≤ ih) ∧ nwRun fl fh cl ch il ih = true := by
  rcases Int.lt_or_le a 1 with h1 | h1
  · exact ⟨_, _, _, _, _, _, ⟨ha.1, by omega⟩, hb, hd, nw_0⟩
  rcases Int.lt_or_le 21 a with h2 | h2
  · exact ⟨_, _, _, _, _, _, ⟨by omega, ha.2⟩, hb, hd, nw_1⟩
  rcases Int.lt_or_le a 2 with g0 | g0
  · rcases Int.lt_or_le b 1 with h3 | h3
    · exact ⟨_, _, _, _, _, _, ⟨by omega, by omega⟩, ⟨hb.1, by omega⟩, hd, nw_2⟩
    rcases Int.lt_or_le 100 b with h4 | h4
    · exact ⟨_, _, _, _, _, _, ⟨by omega, by omega⟩, ⟨by omega, hb.2⟩, hd, nw_3⟩
    rcases Int.lt_or_le d 0 with h5 | h5
    · exact ⟨_, _, _, _, _, _, ⟨by omega, by omega⟩, ⟨by omega, by omega⟩, ⟨hd.1, by omega⟩, nw_4⟩
    rcases Int.lt_or_le 3 d with h6 | h6
    · exact ⟨_, _, _, _, _, _, ⟨by omega, by omega⟩, ⟨by omega, by omega⟩, ⟨by omega, hd.2⟩, nw_5⟩
    rcases Int.lt_or_le d 1 with h7 | h7
    · exact ⟨_, _, _, _, _, _, ⟨by omega, by omega⟩, ⟨by omega, by omega⟩, ⟨by omega, by omega⟩, nw_6⟩
    · exact ⟨_, _, _, _, _, _, ⟨by omega, by omega⟩, ⟨by omega, by omega⟩, ⟨by omega, by omega⟩, nw_7⟩
  rcases Int.lt_or_le a 3 with g1 | g1
  · rcases Int.lt_or_le b 1 with h3 | h3
    · exact ⟨_, _, _, _, _, _, ⟨by omega, by omega⟩, ⟨hb.1, by omega⟩, hd, nw_8⟩
    rcases Int.lt_or_le 100 b with h4 | h4
    · exact ⟨_, _, _, _, _, _, ⟨by omega, by omega⟩, ⟨by omega, hb.2⟩, hd, nw_9⟩
    rcases Int.lt_or_le d 0 with h5 | h5
    · exact ⟨_, _, _, _, _, _, ⟨by omega, by omega⟩, ⟨by omega, by omega⟩, ⟨hd.1, by omega⟩, nw_10⟩
    rcases Int.lt_or_le 6 d with h6 | h6
    · exact ⟨_, _, _, _, _, _, ⟨by omega, by omega⟩, ⟨by omega, by omega⟩, ⟨by omega, hd.2⟩, nw_11⟩
    rcases Int.lt_or_le d 1 with h7 | h7
    · exact ⟨_, _, _, _, _, _, ⟨by omega, by omega⟩, ⟨by omega, by omega⟩, ⟨by omega, by omega⟩, nw_12⟩
    · exact ⟨_, _, _, _, _, _, ⟨by omega, by omega⟩, ⟨by omega, by omega⟩, ⟨by omega, by omega⟩, nw_13⟩
  rcases Int.lt_or_le a 4 with g2 | g2
  · rcases Int.lt_or_le b 1 with h3 | h3
    · exact ⟨_, _, _, _, _, _, ⟨by omega, by omega⟩, ⟨hb.1, by omega⟩, hd, nw_14⟩
    rcases Int.lt_or_le 100 b with h4 | h4
    · exact ⟨_, _, _, _, _, _, ⟨by omega, by omega⟩, ⟨by omega, hb.2⟩, hd, nw_15⟩
    rcases Int.lt_or_le d 0 with h5 | h5
    · exact ⟨_, _, _, _, _, _, ⟨by omega, by omega⟩, ⟨by omega, by omega⟩, ⟨hd.1, by omega⟩, nw_16⟩
    rcases Int.lt_or_le 9 d with h6 | h6
    · exact ⟨_, _, _, _, _, _, ⟨by omega, by omega⟩, ⟨by omega, by omega⟩, ⟨by omega, hd.2⟩, nw_17⟩
    rcases Int.lt_or_le d 1 with h7 | h7
    · exact ⟨_, _, _, _, _, _, ⟨by omega, by omega⟩, ⟨by omega, by omega⟩, ⟨by omega, by omega⟩, nw_18⟩
    · exact ⟨_, _, _, _, _, _, ⟨by omega, by omega⟩, ⟨by omega, by omega⟩, ⟨by omega, by omega⟩, nw_19⟩
  rcases Int.lt_or_le b 1 with h3 | h3
  · exact ⟨_, _, _, _, _, _, ⟨by omega, by omega⟩, ⟨hb.1, by omega⟩, hd, nw_20⟩
  rcases Int.lt_or_le 100 b with h4 | h4
  · exact ⟨_, _, _, _, _, _, ⟨by omega, by omega⟩, ⟨by omega, hb.2⟩, hd, nw_21⟩
  rcases Int.lt_or_le d 0 with h5 | h5
  · exact ⟨_, _, _, _, _, _, ⟨by omega, by omega⟩, ⟨by omega, by omega⟩, ⟨hd.1, by omega⟩, nw_22⟩
  rcases Int.lt_or_le 9 d with h6 | h6
  · exact ⟨_, _, _, _, _, _, ⟨by omega, by omega⟩, ⟨by omega, by omega⟩, ⟨by omega, hd.2⟩, nw_23⟩
  rcases Int.lt_or_le d 1 with h7 | h7
  · exact ⟨_, _, _, _, _, _, ⟨by omega, by omega⟩, ⟨by omega, by omega⟩, ⟨by omega, by omega⟩, nw_24⟩
  · exact ⟨_, _, _, _, _, _, ⟨by omega, by omega⟩, ⟨by omega, by omega⟩, ⟨by omega, by omega⟩, nw_25⟩
end Go.SE
