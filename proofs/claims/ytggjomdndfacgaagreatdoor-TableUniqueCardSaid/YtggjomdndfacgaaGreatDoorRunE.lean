/- Closed runs: slices.Insert of a pair, slices.Replace of a child. -/
import Derived.Test.YtggjomdndfacgaaGreatDoorUp1
namespace Go.AM
theorem ins_1 : insRow 1 1 [] = true := by kernel_rfl
theorem insk_1 (k : Nat) : insRow 1 (Nat.add k 2) (anyL 2) = true := by kernel_rfl
theorem ins_2 : insRow 2 2 [] = true := by kernel_rfl
theorem insk_2 (k : Nat) : insRow 2 (Nat.add k 3) (anyL 2) = true := by kernel_rfl
theorem ins_3 : insRow 3 3 [] = true := by kernel_rfl
theorem insk_3 (k : Nat) : insRow 3 (Nat.add k 4) (anyL 2) = true := by kernel_rfl
theorem ins_4 : insRow 4 4 [] = true := by kernel_rfl
theorem insk_4 (k : Nat) : insRow 4 (Nat.add k 5) (anyL 2) = true := by kernel_rfl
theorem ins_5 : insRow 5 5 [] = true := by kernel_rfl
theorem insk_5 (k : Nat) : insRow 5 (Nat.add k 6) (anyL 2) = true := by kernel_rfl
theorem ins_6 : insRow 6 6 [] = true := by kernel_rfl
theorem insk_6 (k : Nat) : insRow 6 (Nat.add k 7) (anyL 2) = true := by kernel_rfl
theorem ins_7 : insRow 7 7 [] = true := by kernel_rfl
theorem insk_7 (k : Nat) : insRow 7 (Nat.add k 8) (anyL 2) = true := by kernel_rfl
theorem ins_8 : insRow 8 8 [] = true := by kernel_rfl
theorem insk_8 (k : Nat) : insRow 8 (Nat.add k 9) (anyL 2) = true := by kernel_rfl
theorem ins_9 : insRow 9 9 [] = true := by kernel_rfl
theorem insk_9 (k : Nat) : insRow 9 (Nat.add k 10) (anyL 2) = true := by kernel_rfl
theorem ins_10 : insRow 10 10 [] = true := by kernel_rfl
theorem insk_10 (k : Nat) : insRow 10 (Nat.add k 11) (anyL 2) = true := by kernel_rfl
theorem ins_11 : insRow 11 11 [] = true := by kernel_rfl
theorem insk_11 (k : Nat) : insRow 11 (Nat.add k 12) (anyL 2) = true := by kernel_rfl
theorem ins_12 : insRow 12 12 [] = true := by kernel_rfl
theorem insk_12 (k : Nat) : insRow 12 (Nat.add k 13) (anyL 2) = true := by kernel_rfl
theorem ins_13 : insRow 13 13 [] = true := by kernel_rfl
theorem insk_13 (k : Nat) : insRow 13 (Nat.add k 14) (anyL 2) = true := by kernel_rfl
theorem ins_14 : insRow 14 14 [] = true := by kernel_rfl
theorem insk_14 (k : Nat) : insRow 14 (Nat.add k 15) (anyL 2) = true := by kernel_rfl
theorem ins_15 : insRow 15 15 [] = true := by kernel_rfl
theorem insk_15 (k : Nat) : insRow 15 (Nat.add k 16) (anyL 2) = true := by kernel_rfl
theorem ins_16 : insRow 16 16 [] = true := by kernel_rfl
theorem insk_16 (k : Nat) : insRow 16 (Nat.add k 17) (anyL 2) = true := by kernel_rfl
theorem rep_1_1 : repRow 1 1 1 [] = true := by kernel_rfl
theorem repk_1_1 (k : Nat) : repRow 1 1 (Nat.add k 2) (anyL 1) = true := by kernel_rfl
theorem rep_1_2 : repRow 1 2 1 [] = true := by kernel_rfl
theorem repk_1_2 (k : Nat) : repRow 1 2 (Nat.add k 2) (anyL 1) = true := by kernel_rfl
theorem rep_2_1 : repRow 2 1 2 [] = true := by kernel_rfl
theorem repk_2_1 (k : Nat) : repRow 2 1 (Nat.add k 3) (anyL 1) = true := by kernel_rfl
theorem rep_2_2 : repRow 2 2 2 [] = true := by kernel_rfl
theorem repk_2_2 (k : Nat) : repRow 2 2 (Nat.add k 3) (anyL 1) = true := by kernel_rfl
theorem rep_3_1 : repRow 3 1 3 [] = true := by kernel_rfl
theorem repk_3_1 (k : Nat) : repRow 3 1 (Nat.add k 4) (anyL 1) = true := by kernel_rfl
theorem rep_3_2 : repRow 3 2 3 [] = true := by kernel_rfl
theorem repk_3_2 (k : Nat) : repRow 3 2 (Nat.add k 4) (anyL 1) = true := by kernel_rfl
theorem rep_4_1 : repRow 4 1 4 [] = true := by kernel_rfl
theorem repk_4_1 (k : Nat) : repRow 4 1 (Nat.add k 5) (anyL 1) = true := by kernel_rfl
theorem rep_4_2 : repRow 4 2 4 [] = true := by kernel_rfl
theorem repk_4_2 (k : Nat) : repRow 4 2 (Nat.add k 5) (anyL 1) = true := by kernel_rfl
theorem rep_5_1 : repRow 5 1 5 [] = true := by kernel_rfl
theorem repk_5_1 (k : Nat) : repRow 5 1 (Nat.add k 6) (anyL 1) = true := by kernel_rfl
theorem rep_5_2 : repRow 5 2 5 [] = true := by kernel_rfl
theorem repk_5_2 (k : Nat) : repRow 5 2 (Nat.add k 6) (anyL 1) = true := by kernel_rfl
theorem rep_6_1 : repRow 6 1 6 [] = true := by kernel_rfl
theorem repk_6_1 (k : Nat) : repRow 6 1 (Nat.add k 7) (anyL 1) = true := by kernel_rfl
theorem rep_6_2 : repRow 6 2 6 [] = true := by kernel_rfl
theorem repk_6_2 (k : Nat) : repRow 6 2 (Nat.add k 7) (anyL 1) = true := by kernel_rfl
end Go.AM
