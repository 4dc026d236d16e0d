/- The tree at the program: put and next; Tree.Put; bytes.Clone; keys of rows; what a round of the indexing runs. -/
import Derived.Test.YtggjomdndfacgaaGreatDoorRunE
import Derived.Test.YtggjomdndfacgaaGreatDoorRunL
import Derived.Test.YtggjomdndfacgaaGreatDoorRunN0
import Derived.Test.YtggjomdndfacgaaGreatDoorRunN1
import Derived.Test.YtggjomdndfacgaaGreatDoorRunN2
import Derived.Test.YtggjomdndfacgaaGreatDoorRunN3
import Derived.Test.YtggjomdndfacgaaGreatDoorUp1
import Derived.Test.YtggjomdndfacgaaGreatDoorUt1
import Derived.Test.YtggjomdndfacgaaGreatDoorUm6
set_option linter.unusedSectionVars false
set_option linter.unusedVariables false
set_option linter.unusedSimpArgs false
namespace Go.AM
theorem ins_all : ∀ n : Nat, n ≤ 16 → insRow n n [] = true ∧ ∀ k, insRow n (Nat.add k (Nat.succ n)) (anyL 2) = true
  | 0, _ => ⟨rfl, fun _ => rfl⟩
  | 1, _ => ⟨ins_1, insk_1⟩
  | 2, _ => ⟨ins_2, insk_2⟩
  | 3, _ => ⟨ins_3, insk_3⟩
  | 4, _ => ⟨ins_4, insk_4⟩
  | 5, _ => ⟨ins_5, insk_5⟩
  | 6, _ => ⟨ins_6, insk_6⟩
  | 7, _ => ⟨ins_7, insk_7⟩
  | 8, _ => ⟨ins_8, insk_8⟩
  | 9, _ => ⟨ins_9, insk_9⟩
  | 10, _ => ⟨ins_10, insk_10⟩
  | 11, _ => ⟨ins_11, insk_11⟩
  | 12, _ => ⟨ins_12, insk_12⟩
  | 13, _ => ⟨ins_13, insk_13⟩
  | 14, _ => ⟨ins_14, insk_14⟩
  | 15, _ => ⟨ins_15, insk_15⟩
  | 16, _ => ⟨ins_16, insk_16⟩
  | n + 17, h => absurd h (by omega)
theorem rep_all1 : ∀ n : Nat, n ≤ 6 → repRow n 1 n [] = true ∧ ∀ k, repRow n 1 (Nat.add k (Nat.succ n)) (anyL 1) = true
  | 0, _ => ⟨rfl, fun _ => rfl⟩
  | 1, _ => ⟨rep_1_1, repk_1_1⟩
  | 2, _ => ⟨rep_2_1, repk_2_1⟩
  | 3, _ => ⟨rep_3_1, repk_3_1⟩
  | 4, _ => ⟨rep_4_1, repk_4_1⟩
  | 5, _ => ⟨rep_5_1, repk_5_1⟩
  | 6, _ => ⟨rep_6_1, repk_6_1⟩
  | n + 7, h => absurd h (by omega)
theorem rep_all2 : ∀ n : Nat, n ≤ 6 → repRow n 2 n [] = true ∧ ∀ k, repRow n 2 (Nat.add k (Nat.succ n)) (anyL 1) = true
  | 0, _ => ⟨rfl, fun _ => rfl⟩
  | 1, _ => ⟨rep_1_2, repk_1_2⟩
  | 2, _ => ⟨rep_2_2, repk_2_2⟩
  | 3, _ => ⟨rep_3_2, repk_3_2⟩
  | 4, _ => ⟨rep_4_2, repk_4_2⟩
  | 5, _ => ⟨rep_5_2, repk_5_2⟩
  | 6, _ => ⟨rep_6_2, repk_6_2⟩
  | n + 7, h => absurd h (by omega)
theorem putL_all : ∀ s : Nat, s ≤ 16 → putLRow s = true
  | 0, _ => putL_0
  | 1, _ => putL_1
  | 2, _ => putL_2
  | 3, _ => putL_3
  | 4, _ => putL_4
  | 5, _ => putL_5
  | 6, _ => putL_6
  | 7, _ => putL_7
  | 8, _ => putL_8
  | 9, _ => putL_9
  | 10, _ => putL_10
  | 11, _ => putL_11
  | 12, _ => putL_12
  | 13, _ => putL_13
  | 14, _ => putL_14
  | 15, _ => putL_15
  | 16, _ => putL_16
  | s + 17, h => absurd h (by omega)
theorem nextL_all : ∀ s : Nat, s ≤ 16 → nextLRow s = true
  | 0, _ => nextL_0
  | 1, _ => nextL_1
  | 2, _ => nextL_2
  | 3, _ => nextL_3
  | 4, _ => nextL_4
  | 5, _ => nextL_5
  | 6, _ => nextL_6
  | 7, _ => nextL_7
  | 8, _ => nextL_8
  | 9, _ => nextL_9
  | 10, _ => nextL_10
  | 11, _ => nextL_11
  | 12, _ => nextL_12
  | 13, _ => nextL_13
  | 14, _ => nextL_14
  | 15, _ => nextL_15
  | 16, _ => nextL_16
  | s + 17, h => absurd h (by omega)
theorem putN_all (m c s : Nat) (h1 : 2 ≤ m) (h2 : c < m) (h3 : 8 ≤ s) (h4 : s ≤ 16) (h5 : 8 * (m - 1) + s ≤ 39) : putNRow m c s = true := by
  have hm : m = 2 ∨ m = 3 ∨ m = 4 := by omega
  rcases hm with rfl | rfl | rfl
  · have hc : c = 0 ∨ c = 1 := by omega
    rcases hc with rfl | rfl
    · have hs : s = 8 ∨ s = 9 ∨ s = 10 ∨ s = 11 ∨ s = 12 ∨ s = 13 ∨ s = 14 ∨ s = 15 ∨ s = 16 := by omega
      rcases hs with rfl | rfl | rfl | rfl | rfl | rfl | rfl | rfl | rfl
      · exact putN_2_0_8
      · exact putN_2_0_9
      · exact putN_2_0_10
      · exact putN_2_0_11
      · exact putN_2_0_12
      · exact putN_2_0_13
      · exact putN_2_0_14
      · exact putN_2_0_15
      · exact putN_2_0_16
    · have hs : s = 8 ∨ s = 9 ∨ s = 10 ∨ s = 11 ∨ s = 12 ∨ s = 13 ∨ s = 14 ∨ s = 15 ∨ s = 16 := by omega
      rcases hs with rfl | rfl | rfl | rfl | rfl | rfl | rfl | rfl | rfl
      · exact putN_2_1_8
      · exact putN_2_1_9
      · exact putN_2_1_10
      · exact putN_2_1_11
      · exact putN_2_1_12
      · exact putN_2_1_13
      · exact putN_2_1_14
      · exact putN_2_1_15
      · exact putN_2_1_16
  · have hc : c = 0 ∨ c = 1 ∨ c = 2 := by omega
    rcases hc with rfl | rfl | rfl
    · have hs : s = 8 ∨ s = 9 ∨ s = 10 ∨ s = 11 ∨ s = 12 ∨ s = 13 ∨ s = 14 ∨ s = 15 ∨ s = 16 := by omega
      rcases hs with rfl | rfl | rfl | rfl | rfl | rfl | rfl | rfl | rfl
      · exact putN_3_0_8
      · exact putN_3_0_9
      · exact putN_3_0_10
      · exact putN_3_0_11
      · exact putN_3_0_12
      · exact putN_3_0_13
      · exact putN_3_0_14
      · exact putN_3_0_15
      · exact putN_3_0_16
    · have hs : s = 8 ∨ s = 9 ∨ s = 10 ∨ s = 11 ∨ s = 12 ∨ s = 13 ∨ s = 14 ∨ s = 15 ∨ s = 16 := by omega
      rcases hs with rfl | rfl | rfl | rfl | rfl | rfl | rfl | rfl | rfl
      · exact putN_3_1_8
      · exact putN_3_1_9
      · exact putN_3_1_10
      · exact putN_3_1_11
      · exact putN_3_1_12
      · exact putN_3_1_13
      · exact putN_3_1_14
      · exact putN_3_1_15
      · exact putN_3_1_16
    · have hs : s = 8 ∨ s = 9 ∨ s = 10 ∨ s = 11 ∨ s = 12 ∨ s = 13 ∨ s = 14 ∨ s = 15 ∨ s = 16 := by omega
      rcases hs with rfl | rfl | rfl | rfl | rfl | rfl | rfl | rfl | rfl
      · exact putN_3_2_8
      · exact putN_3_2_9
      · exact putN_3_2_10
      · exact putN_3_2_11
      · exact putN_3_2_12
      · exact putN_3_2_13
      · exact putN_3_2_14
      · exact putN_3_2_15
      · exact putN_3_2_16
  · have hc : c = 0 ∨ c = 1 ∨ c = 2 ∨ c = 3 := by omega
    rcases hc with rfl | rfl | rfl | rfl
    · have hs : s = 8 ∨ s = 9 ∨ s = 10 ∨ s = 11 ∨ s = 12 ∨ s = 13 ∨ s = 14 ∨ s = 15 := by omega
      rcases hs with rfl | rfl | rfl | rfl | rfl | rfl | rfl | rfl
      · exact putN_4_0_8
      · exact putN_4_0_9
      · exact putN_4_0_10
      · exact putN_4_0_11
      · exact putN_4_0_12
      · exact putN_4_0_13
      · exact putN_4_0_14
      · exact putN_4_0_15
    · have hs : s = 8 ∨ s = 9 ∨ s = 10 ∨ s = 11 ∨ s = 12 ∨ s = 13 ∨ s = 14 ∨ s = 15 := by omega
      rcases hs with rfl | rfl | rfl | rfl | rfl | rfl | rfl | rfl
      · exact putN_4_1_8
      · exact putN_4_1_9
      · exact putN_4_1_10
      · exact putN_4_1_11
      · exact putN_4_1_12
      · exact putN_4_1_13
      · exact putN_4_1_14
      · exact putN_4_1_15
    · have hs : s = 8 ∨ s = 9 ∨ s = 10 ∨ s = 11 ∨ s = 12 ∨ s = 13 ∨ s = 14 ∨ s = 15 := by omega
      rcases hs with rfl | rfl | rfl | rfl | rfl | rfl | rfl | rfl
      · exact putN_4_2_8
      · exact putN_4_2_9
      · exact putN_4_2_10
      · exact putN_4_2_11
      · exact putN_4_2_12
      · exact putN_4_2_13
      · exact putN_4_2_14
      · exact putN_4_2_15
    · have hs : s = 8 ∨ s = 9 ∨ s = 10 ∨ s = 11 ∨ s = 12 ∨ s = 13 ∨ s = 14 ∨ s = 15 := by omega
      rcases hs with rfl | rfl | rfl | rfl | rfl | rfl | rfl | rfl
      · exact putN_4_3_8
      · exact putN_4_3_9
      · exact putN_4_3_10
      · exact putN_4_3_11
      · exact putN_4_3_12
      · exact putN_4_3_13
      · exact putN_4_3_14
      · exact putN_4_3_15
theorem nextN_all (m c s : Nat) (h1 : 2 ≤ m) (h2 : c < m) (h3 : 8 ≤ s) (h4 : s ≤ 16) (h5 : 8 * (m - 1) + s ≤ 39) : nextNRow m c s = true := by
  have hm : m = 2 ∨ m = 3 ∨ m = 4 := by omega
  rcases hm with rfl | rfl | rfl
  · have hc : c = 0 ∨ c = 1 := by omega
    rcases hc with rfl | rfl
    · have hs : s = 8 ∨ s = 9 ∨ s = 10 ∨ s = 11 ∨ s = 12 ∨ s = 13 ∨ s = 14 ∨ s = 15 ∨ s = 16 := by omega
      rcases hs with rfl | rfl | rfl | rfl | rfl | rfl | rfl | rfl | rfl
      · exact nextN_2_0_8
      · exact nextN_2_0_9
      · exact nextN_2_0_10
      · exact nextN_2_0_11
      · exact nextN_2_0_12
      · exact nextN_2_0_13
      · exact nextN_2_0_14
      · exact nextN_2_0_15
      · exact nextN_2_0_16
    · have hs : s = 8 ∨ s = 9 ∨ s = 10 ∨ s = 11 ∨ s = 12 ∨ s = 13 ∨ s = 14 ∨ s = 15 ∨ s = 16 := by omega
      rcases hs with rfl | rfl | rfl | rfl | rfl | rfl | rfl | rfl | rfl
      · exact nextN_2_1_8
      · exact nextN_2_1_9
      · exact nextN_2_1_10
      · exact nextN_2_1_11
      · exact nextN_2_1_12
      · exact nextN_2_1_13
      · exact nextN_2_1_14
      · exact nextN_2_1_15
      · exact nextN_2_1_16
  · have hc : c = 0 ∨ c = 1 ∨ c = 2 := by omega
    rcases hc with rfl | rfl | rfl
    · have hs : s = 8 ∨ s = 9 ∨ s = 10 ∨ s = 11 ∨ s = 12 ∨ s = 13 ∨ s = 14 ∨ s = 15 ∨ s = 16 := by omega
      rcases hs with rfl | rfl | rfl | rfl | rfl | rfl | rfl | rfl | rfl
      · exact nextN_3_0_8
      · exact nextN_3_0_9
      · exact nextN_3_0_10
      · exact nextN_3_0_11
      · exact nextN_3_0_12
      · exact nextN_3_0_13
      · exact nextN_3_0_14
      · exact nextN_3_0_15
      · exact nextN_3_0_16
    · have hs : s = 8 ∨ s = 9 ∨ s = 10 ∨ s = 11 ∨ s = 12 ∨ s = 13 ∨ s = 14 ∨ s = 15 ∨ s = 16 := by omega
      rcases hs with rfl | rfl | rfl | rfl | rfl | rfl | rfl | rfl | rfl
      · exact nextN_3_1_8
      · exact nextN_3_1_9
      · exact nextN_3_1_10
      · exact nextN_3_1_11
      · exact nextN_3_1_12
      · exact nextN_3_1_13
      · exact nextN_3_1_14
      · exact nextN_3_1_15
      · exact nextN_3_1_16
    · have hs : s = 8 ∨ s = 9 ∨ s = 10 ∨ s = 11 ∨ s = 12 ∨ s = 13 ∨ s = 14 ∨ s = 15 ∨ s = 16 := by omega
      rcases hs with rfl | rfl | rfl | rfl | rfl | rfl | rfl | rfl | rfl
      · exact nextN_3_2_8
      · exact nextN_3_2_9
      · exact nextN_3_2_10
      · exact nextN_3_2_11
      · exact nextN_3_2_12
      · exact nextN_3_2_13
      · exact nextN_3_2_14
      · exact nextN_3_2_15
      · exact nextN_3_2_16
  · have hc : c = 0 ∨ c = 1 ∨ c = 2 ∨ c = 3 := by omega
    rcases hc with rfl | rfl | rfl | rfl
    · have hs : s = 8 ∨ s = 9 ∨ s = 10 ∨ s = 11 ∨ s = 12 ∨ s = 13 ∨ s = 14 ∨ s = 15 := by omega
      rcases hs with rfl | rfl | rfl | rfl | rfl | rfl | rfl | rfl
      · exact nextN_4_0_8
      · exact nextN_4_0_9
      · exact nextN_4_0_10
      · exact nextN_4_0_11
      · exact nextN_4_0_12
      · exact nextN_4_0_13
      · exact nextN_4_0_14
      · exact nextN_4_0_15
    · have hs : s = 8 ∨ s = 9 ∨ s = 10 ∨ s = 11 ∨ s = 12 ∨ s = 13 ∨ s = 14 ∨ s = 15 := by omega
      rcases hs with rfl | rfl | rfl | rfl | rfl | rfl | rfl | rfl
      · exact nextN_4_1_8
      · exact nextN_4_1_9
      · exact nextN_4_1_10
      · exact nextN_4_1_11
      · exact nextN_4_1_12
      · exact nextN_4_1_13
      · exact nextN_4_1_14
      · exact nextN_4_1_15
    · have hs : s = 8 ∨ s = 9 ∨ s = 10 ∨ s = 11 ∨ s = 12 ∨ s = 13 ∨ s = 14 ∨ s = 15 := by omega
      rcases hs with rfl | rfl | rfl | rfl | rfl | rfl | rfl | rfl
      · exact nextN_4_2_8
      · exact nextN_4_2_9
      · exact nextN_4_2_10
      · exact nextN_4_2_11
      · exact nextN_4_2_12
      · exact nextN_4_2_13
      · exact nextN_4_2_14
      · exact nextN_4_2_15
    · have hs : s = 8 ∨ s = 9 ∨ s = 10 ∨ s = 11 ∨ s = 12 ∨ s = 13 ∨ s = 14 ∨ s = 15 := by omega
      rcases hs with rfl | rfl | rfl | rfl | rfl | rfl | rfl | rfl
      · exact nextN_4_3_8
      · exact nextN_4_3_9
      · exact nextN_4_3_10
      · exact nextN_4_3_11
      · exact nextN_4_3_12
      · exact nextN_4_3_13
      · exact nextN_4_3_14
      · exact nextN_4_3_15
theorem nextE_all (m c s : Nat) (h1 : 2 ≤ m) (h2 : c + 1 < m) (h3 : 8 ≤ s) (h4 : s ≤ 16) (h5 : 8 * (m - 1) + s ≤ 39) : nextERow m c s = true := by
  have hm : m = 2 ∨ m = 3 ∨ m = 4 := by omega
  rcases hm with rfl | rfl | rfl
  · have hc : c = 0 := by omega
    subst hc
    have hs : s = 8 ∨ s = 9 ∨ s = 10 ∨ s = 11 ∨ s = 12 ∨ s = 13 ∨ s = 14 ∨ s = 15 ∨ s = 16 := by omega
    rcases hs with rfl | rfl | rfl | rfl | rfl | rfl | rfl | rfl | rfl
    · exact nextE_2_0_8
    · exact nextE_2_0_9
    · exact nextE_2_0_10
    · exact nextE_2_0_11
    · exact nextE_2_0_12
    · exact nextE_2_0_13
    · exact nextE_2_0_14
    · exact nextE_2_0_15
    · exact nextE_2_0_16
  · have hc : c = 0 ∨ c = 1 := by omega
    rcases hc with rfl | rfl
    · have hs : s = 8 ∨ s = 9 ∨ s = 10 ∨ s = 11 ∨ s = 12 ∨ s = 13 ∨ s = 14 ∨ s = 15 ∨ s = 16 := by omega
      rcases hs with rfl | rfl | rfl | rfl | rfl | rfl | rfl | rfl | rfl
      · exact nextE_3_0_8
      · exact nextE_3_0_9
      · exact nextE_3_0_10
      · exact nextE_3_0_11
      · exact nextE_3_0_12
      · exact nextE_3_0_13
      · exact nextE_3_0_14
      · exact nextE_3_0_15
      · exact nextE_3_0_16
    · have hs : s = 8 ∨ s = 9 ∨ s = 10 ∨ s = 11 ∨ s = 12 ∨ s = 13 ∨ s = 14 ∨ s = 15 ∨ s = 16 := by omega
      rcases hs with rfl | rfl | rfl | rfl | rfl | rfl | rfl | rfl | rfl
      · exact nextE_3_1_8
      · exact nextE_3_1_9
      · exact nextE_3_1_10
      · exact nextE_3_1_11
      · exact nextE_3_1_12
      · exact nextE_3_1_13
      · exact nextE_3_1_14
      · exact nextE_3_1_15
      · exact nextE_3_1_16
  · have hc : c = 0 ∨ c = 1 ∨ c = 2 := by omega
    rcases hc with rfl | rfl | rfl
    · have hs : s = 8 ∨ s = 9 ∨ s = 10 ∨ s = 11 ∨ s = 12 ∨ s = 13 ∨ s = 14 ∨ s = 15 := by omega
      rcases hs with rfl | rfl | rfl | rfl | rfl | rfl | rfl | rfl
      · exact nextE_4_0_8
      · exact nextE_4_0_9
      · exact nextE_4_0_10
      · exact nextE_4_0_11
      · exact nextE_4_0_12
      · exact nextE_4_0_13
      · exact nextE_4_0_14
      · exact nextE_4_0_15
    · have hs : s = 8 ∨ s = 9 ∨ s = 10 ∨ s = 11 ∨ s = 12 ∨ s = 13 ∨ s = 14 ∨ s = 15 := by omega
      rcases hs with rfl | rfl | rfl | rfl | rfl | rfl | rfl | rfl
      · exact nextE_4_1_8
      · exact nextE_4_1_9
      · exact nextE_4_1_10
      · exact nextE_4_1_11
      · exact nextE_4_1_12
      · exact nextE_4_1_13
      · exact nextE_4_1_14
      · exact nextE_4_1_15
    · have hs : s = 8 ∨ s = 9 ∨ s = 10 ∨ s = 11 ∨ s = 12 ∨ s = 13 ∨ s = 14 ∨ s = 15 := by omega
      rcases hs with rfl | rfl | rfl | rfl | rfl | rfl | rfl | rfl
      · exact nextE_4_2_8
      · exact nextE_4_2_9
      · exact nextE_4_2_10
      · exact nextE_4_2_11
      · exact nextE_4_2_12
      · exact nextE_4_2_13
      · exact nextE_4_2_14
      · exact nextE_4_2_15
end Go.AM

namespace Go.AM
open Go.Proofs

/- ### the tree's runs at the program -/
theorem ins_edruns (n i : Nat) (hn : n ≤ 16) (hi : i < n) : EdRuns TZ 217 2 n 2 1 (n + 1) [.int .i64 (.ofNat i)] (selIns n i) := by
  obtain ⟨h1, h2⟩ := ins_all n hn
  exact edRuns_of (K := KO) ko_ok (allLt_ok h1 i hi) fun k => allLt_ok (h2 k) i hi
theorem rep_edruns (n i mv : Nat) (hn : n ≤ 6) (hi : i < n) (h1 : 1 ≤ mv) (h2 : mv ≤ 2) : EdRuns TZ 219 2 n 1 mv (n + mv - 1) [.int .i64 (.ofNat i), .int .i64 (.ofNat (i + 1))] (selRep n i mv) := by
  have hmv : mv = 1 ∨ mv = 2 := by omega
  rcases hmv with rfl | rfl
  · obtain ⟨g1, g2⟩ := rep_all1 n hn
    exact edRuns_of (K := KO) ko_ok (allLt_ok g1 i hi) fun k => allLt_ok (g2 k) i hi
  · obtain ⟨g1, g2⟩ := rep_all2 n hn
    exact edRuns_of (K := KO) ko_ok (allLt_ok g1 i hi) fun k => allLt_ok (g2 k) i hi
theorem xb_ok {T : Tok} (hst : T.strong = true) {m c s s2 p : Nat} (hc : CmpT T m c s s2 p) : ∀ f g, XB m c s s2 p f = some g → @XSound T TZ f g.run := by
  intro f g h
  unfold XB at h
  split at h
  · cases h; exact insG_ok hst tz_glob (by decide) ins_edruns
  · cases h; exact repG_ok hst tz_glob (by decide) rep_edruns
  · cases h; exact cmpX_ok hc (tz_ext 224 .compare rfl)
  · cases h
theorem kb_ok (T : Tok) (m c s s2 p : Nat) (hst : T.strong = true) (hc : CmpT T m c s s2 p) : @KSound T TZ (KB m c s s2 p) := callX_ok tz_mixed tz_gprog tz_ext (xb_ok hst hc) 60
theorem tz_bruns : BRuns TZ 2 159 83 KB 39 where
  glob := tz_glob
  pos := by decide
  le := by decide
  sound := kb_ok
  putL s p hs hp := allLt_ok (putL_all s hs) p (by show p < s + 1; omega)
  putN m c s p h1 h2 h3 h4 h5 hp := allLt_ok (putN_all m c s h1 h2 h3 h4 h5) p (by show p < s + 1; omega)
  nextL s p hs hp := allLt_ok (nextL_all s hs) p (by show p < s + 1; omega)
  nextN m c s p h1 h2 h3 h4 h5 hp h6 := by
    refine allLt_ok (nextN_all m c s h1 h2 h3 h4 h5) p ?_
    rw [cond_if]
    split
    · show p < s + 1; omega
    · rename_i hne
      have : ¬ c + 1 = m := fun e => hne (beq_true.2 e)
      omega
  nextE m c s s2 h1 h2 h3 h4 h5 h6 := by
    have h := allLt_ok (nextE_all m c s (by omega) h1 h2 h3 (by omega)) (s2 - 8) (by omega)
    have e : Nat.add 8 (s2 - 8) = s2 := by show 8 + (s2 - 8) = s2; omega
    rw [e] at h
    exact h
end Go.AM

namespace Go.AM
open Go.Proofs

/- ### Tree.Put: its code, and the runs of it that are made by the abstract machine -/
noncomputable def B98 : Code := bodyOf TZ 98
noncomputable def R98 : Code := sl B98
noncomputable def O98 : Array Oper := opsOf (sl (sr B98))
noncomputable def Pre98 : Array Oper := (O98.toList.take 9).toArray
noncomputable def X98 : Code := sr (sr B98)
theorem b98_is : B98 = .seq R98 (.seq (.region 1 O98 true) X98) := by kernel_rfl
noncomputable def L98 : Nat → Array Bool
  | 0 => Array.replicate 9 true ++ Array.replicate (O98.size - 9) false
  | n + 1 => (L98 n).setIfInBounds (9 + n) true
theorem r98_9 : Region.ready .any O98 (L98 0) = [9] := by kernel_rfl
theorem r98_10 : Region.ready .any O98 (L98 1) = [10] := by kernel_rfl
theorem r98_11 : (Region.ready .any O98 (L98 2)).contains 11 = true := by kernel_rfl
theorem r98_12 : (Region.ready .any O98 (L98 3)).contains 12 = true := by kernel_rfl
theorem r98_13 : Region.ready .any O98 (L98 4) = [13] := by kernel_rfl
theorem r98_14 : Region.ready .any O98 (L98 5) = [14] := by kernel_rfl
theorem r98_15 : Region.ready .any O98 (L98 6) = [] := by kernel_rfl
theorem f98_11 : Region.free .any O98 (L98 2) 11 = true := by kernel_rfl
theorem f98_12 : Region.free .any O98 (L98 3) 12 = true := by kernel_rfl
theorem s98 : Region.noSelect O98 = true := by kernel_rfl
theorem z98 : O98.size = 15 := by kernel_rfl
theorem opAtB {ops : Array Oper} {i d : Nat} {op : Op} (h1 : ops[i]? = some ((ops[i]?).getD default)) (h2 : ((ops[i]?).getD default).guard = none) (h3 : ((ops[i]?).getD default).dst = some d) (h4 : ((ops[i]?).getD default).op = op) : OpAt ops i d op := ⟨_, h1, h2, h3, h4⟩
theorem callAtB {ops : Array Oper} {i d : Nat} {g : FuncId} {ts : List Nat} (h1 : ops[i]? = some ((ops[i]?).getD default)) (h2 : ((ops[i]?).getD default).guard = none) (h3 : ((ops[i]?).getD default).dst = some d) (h4 : callOf ((ops[i]?).getD default).op = some (.value (.func g), ts.map Operand.tmp)) : CallAt ops i d g ts := ⟨_, h1, h2, h3, h4⟩
theorem o98_9 : CallAt O98 9 19 159 [13, 18] := callAtB (by kernel_rfl) (by kernel_rfl) (by kernel_rfl) (by kernel_rfl)
theorem o98_10 : OpAt O98 10 9 (.move (.tmp 19)) := opAtB (by kernel_rfl) (by kernel_rfl) (by kernel_rfl) (by kernel_rfl)
theorem o98_11 : OpAt O98 11 20 (.extract (.tmp 9) 0) := opAtB (by kernel_rfl) (by kernel_rfl) (by kernel_rfl) (by kernel_rfl)
theorem o98_12 : OpAt O98 12 21 (.extract (.tmp 9) 1) := opAtB (by kernel_rfl) (by kernel_rfl) (by kernel_rfl) (by kernel_rfl)
theorem o98_13 : OpAt O98 13 7 (.assign (.tmp 20)) := opAtB (by kernel_rfl) (by kernel_rfl) (by kernel_rfl) (by kernel_rfl)
theorem o98_14 : OpAt O98 14 8 (.assign (.tmp 21)) := opAtB (by kernel_rfl) (by kernel_rfl) (by kernel_rfl) (by kernel_rfl)
theorem c98 : cutOk O98 Pre98 9 = true := by kernel_rfl
theorem g98 : Pre98.toList.all (gOper TZ.globals.size) = true := by kernel_rfl
theorem gr98 : [R98].all (gCode TZ.globals.size) = true := by kernel_rfl
theorem gx98 : gCode TZ.globals.size X98 = true := by kernel_rfl
noncomputable def fn98 : Func := (TZ.funcs[98]?).getD default
theorem fn98_is : TZ.funcs[98]? = some fn98 := by kernel_rfl
theorem fn98_body : fn98.body = some B98 := by kernel_rfl
theorem fn98_nt : fn98.ntmps = 46 := by kernel_rfl
theorem fn98_res : fn98.results.toList = [.tmp 6] := by kernel_rfl
noncomputable def put1L (nk : Nat) : List Blk := [.cells true [.opq 0, .any], .cells true (oqs nk 1), .cells true (oqs 1 40)]
noncomputable def put1Run (nk : Nat) : Bool :=
  match pieceRun TZ 46 KO [R98] ⟨true, fun _ => false, false⟩ [(0, .ptr 3 0), (1, .slice 4 0 nk nk false 1), (2, .slice 5 0 1 1 false 1)] [0, 1, 2] (mkMem 2 0 .none (put1L nk)) with
  | .ok (.tuple vs) m1 => match preRun TZ 46 KO Pre98 ([0, 1, 2].zip vs) [0, 13, 18] m1 with
    | .ok (.tuple [x0, x13, .agg [a, b]]) mf =>
      and (and (aeqN 2 x0 (.ptr 3 0)) (aeqN 2 x13 (.opq 0))) (and (freshNs 6 [nmOf a, nmOf b]) (and (and (absN (idMap 2 [nmOf a, nmOf b]) 2 (.slice 3 0 nk nk false 1) a) (absN (idMap 2 [nmOf a, nmOf b]) 2 (.slice 4 0 1 1 false 1) b))
        (absMem (idMap 2 [nmOf a, nmOf b]) 0 .none [.cells true (oqs nk 1), .cells true (oqs 1 40)] mf)))
    | _ => false
  | _ => false
def kN : Bool → Nat
  | false => 1
  | true => 2
noncomputable def put2L (two : Bool) (n : Nat) : List Blk := [.cells false [.any, .int .i64 (.ofNat n)], .cells true (oqs (kN two) 1)]
noncomputable def put2E (two : Bool) (n : Nat) (m : Mem) : Bool :=
  match two with
  | false => absMem (idMap 2 [3]) 0 .none [.cells false [.opq 1, .int .i64 (.ofNat (Nat.succ n))]] m
  | true => (match m.get 3 with
    | .cells _ (.ptr q _ :: _) => and (freshNs 5 [q]) (absMem (idMap 2 [3, q, 4]) 0 .none [.cells false [.ptr 4 0, .int .i64 (.ofNat (Nat.succ n))], .cells true [.nilslice, .nilslice, .slice 5 0 2 2 false 1], .cells true (oqs 2 1)] m)
    | _ => false)
noncomputable def put2Run (two : Bool) (n : Nat) : Bool :=
  match oneRun TZ 46 KO X98 ⟨false, fun _ => false, true⟩ [(0, .ptr 3 0), (7, .slice 4 0 (kN two) (kN two) false 1), (8, .bool true)] [6] (mkMem 2 0 .none (put2L two n)) with
  | .ok (.tuple [_]) m => put2E two n m
  | _ => false
theorem put1_18 : put1Run 18 = true := by kernel_rfl
theorem put1_26 : put1Run 26 = true := by kernel_rfl
theorem put2_all : (List.range 41).all (fun n => put2Run false n && put2Run true n) = true := by kernel_rfl
end Go.AM

namespace Go.AM
open Go.Proofs

/- ### Tree.Put -/
def bytesV (bs : List UInt8) : List Value := bs.map fun x => .int .u8 (x.toNat : Int)
theorem bytesV_len (bs : List UInt8) : (bytesV bs).length = bs.length := List.length_map _
theorem bytesV_cell {bs : List UInt8} {u : Value} (h : u ∈ bytesV bs) : u.oneCell' = true := by
  obtain ⟨x, _, rfl⟩ := List.mem_map.1 h; rfl
theorem bytes_of_row {H : Heap} {v : Value} {bs : List UInt8} (h : RowAt H 1 v bs.length (bytesV bs)) : BytesAt H v bs := by
  rcases h with ⟨h1, _, rfl⟩ | ⟨x, cap, h1, h2, rfl, h4, h5, h6⟩
  · exact .inl ⟨rfl, List.length_eq_zero_iff.1 h1⟩
  · obtain ⟨c, el, fz, g1, g2, g3, g4⟩ := h6
    rw [bytesV_len] at g4
    exact .inr ⟨x.1, x.2.1, cap, c, el, fz, rfl, g1, g4⟩
def EntRow (H : Heap) (e : Ent) : Prop := RowAt H 1 e.k e.kb.length (bytesV e.kb) ∧ ∃ vb : List UInt8, vb.length = 1 ∧ RowAt H 1 e.v vb.length (bytesV vb)
theorem EntRow.mono {H H' : Heap} {e : Ent} (h : EntRow H e) (hH : ∀ b o, H b = some o → H' b = some o) : EntRow H' e := by
  obtain ⟨h1, vb, h2, h3⟩ := h
  exact ⟨h1.mono hH, vb, h2, h3.mono hH⟩
theorem EntRow.ok {H : Heap} {e : Ent} (h : EntRow H e) : EntOk H e := by
  obtain ⟨h1, vb, h2, h3⟩ := h
  exact ⟨bytes_of_row h1, vb, bytes_of_row h3⟩
theorem ko_draw (T : Tok) (hst : T.strong = true) : @DrawOk T TZ KO := @draw_ok T TZ tz_mixed KO (ko_ok T hst)
theorem fn98_name : fn98.name ≠ "runtime.NumGoroutine" := by
  have h : (fn98.name == "runtime.NumGoroutine") = false := by kernel_rfl
  intro e
  rw [e] at h; simp at h
theorem pre98 : ∀ i, i < 9 → Pre98[i]? = O98[i]? := fun i hi => by
  unfold Pre98
  rw [List.getElem?_toArray, List.getElem?_take, if_pos hi, Array.getElem?_toList]
theorem leftX_of {T : Tok} {P : Program} {φ φ' : Phi} {m m' : Mem} {w w' : World} {p : Nat} (hst : @Step T P φ m w φ' m' w') (h : ∀ q b o s, q < m.next → (m.get q).wr = true → φ q = some (b, o, s) → b = p) : LeftX p w w' :=
  ⟨fun b hb hne => @Step.frame T P φ m w φ' m' w' hst b hb fun q o s hq hw hφ => hne (h q b o s hq hw hφ), @Step.size T P φ m w φ' m' w' hst, @Step.os T P φ m w φ' m' w' hst, @Step.out T P φ m w φ' m' w' hst, @Step.tape T P φ m w φ' m' w' hst⟩
theorem upd_inX {H : Heap} {w w' : World} {p : Nat} (hH : In H w) (hp : H p = none) (hl : LeftX p w w') : In (upd H w w') w' := fun b o h => by
  unfold upd at h
  split at h
  · rename_i hb
    rw [hl.1 b hb (fun e => by rw [e, hp] at h; cases h)]; exact hH b o h
  · exact h
def put1Vals (root : Value) (kb vb : List UInt8) (j : Nat) : Value := if j = 0 then root else if j < 40 then ((bytesV kb)[j - 1]?).getD nilS else ((bytesV vb)[j - 40]?).getD nilS
theorem getD_cell {bs : List UInt8} {j : Nat} : (((bytesV bs)[j]?).getD nilS).oneCell' = true := by
  cases hj : (bytesV bs)[j]? with
  | none => rfl
  | some u => exact bytesV_cell (List.mem_of_getElem? hj)
theorem put1Vals_cell {root : Value} (h : root.oneCell' = true) (kb vb : List UInt8) (j : Nat) : (put1Vals root kb vb j).oneCell' = true := by
  unfold put1Vals
  split
  · exact h
  · split <;> exact getD_cell
/-- the first part: up to the call of put -/
theorem tz_put1 {w : World} (hgs : 2 ≤ w.heap.size) {p n : Nat} {root : Value} (hS : StructAt w p [root, .int .i64 (n : Int)]) {k v : Value} {kb vb : List UInt8} (hk : RowAt (heapOf w) 1 k kb.length (bytesV kb)) (hv : RowAt (heapOf w) 1 v vb.length (bytesV vb)) (hvl : vb.length = 1)
    (hnk : kb.length = 18 ∨ kb.length = 26) {Q : Exit → Act → World → Prop}
    (hn : ∀ a2 w2 k' v', ActIs 46 a2 → Left' w w2 → a2.tmps.getD 0 undef = .pointer (some ⟨p, 0, none⟩) → a2.tmps.getD 13 undef = root → a2.tmps.getD 18 undef = .agg #[k', v'] → RowAt (upd noH w w2) 1 k' kb.length (bytesV kb) → RowAt (upd noH w w2) 1 v' vb.length (bytesV vb) →
      wpAny TZ .any O98 (Exit.then (X98.wp TZ Q) Q) 6 (L98 0) a2 w2) :
    B98.wp TZ Q { tmps := #[.pointer (some ⟨p, 0, none⟩), k, v] ++ Array.replicate (fn98.ntmps - (#[.pointer (some ⟨p, 0, none⟩), k, v] : Array Value).size) undef, defers := [] } w := by
  have hrun : put1Run kb.length = true := by
    rcases hnk with h | h <;> rw [h]
    · exact put1_18
    · exact put1_26
  have hk0 : 0 < kb.length := by omega
  have hk39 : kb.length < 39 := by omega
  have hroot : root.oneCell' = true := by
    obtain ⟨_, _, _, _, _, h, _⟩ := hS
    exact h _ (by simp)
  let T : Tok := tokB noH (put1Vals root kb vb) (put1Vals_cell hroot kb vb)
  have hT0 : T.val 0 = root := rfl
  have hkv : ∀ j u, (bytesV kb)[j]? = some u → T.val (1 + j) = u := fun j u hj => by
    have hlt := getElem?_lt hj
    rw [bytesV_len] at hlt
    show put1Vals root kb vb (1 + j) = u
    unfold put1Vals
    rw [if_neg (by omega), if_pos (by omega), show 1 + j - 1 = j by omega, hj]; rfl
  have hvv : ∀ j u, (bytesV vb)[j]? = some u → T.val (40 + j) = u := fun j u hj => by
    show put1Vals root kb vb (40 + j) = u
    unfold put1Vals
    rw [if_neg (by omega), if_neg (by omega), show 40 + j - 40 = j by omega, hj]; rfl
  have hLk : ∀ φ, @VsRel T φ (oqs kb.length 1) (bytesV kb) := fun φ => by
    have := oqs_rel (T := T) (φ := φ) (bytesV kb) 1 hkv
    rwa [bytesV_len] at this
  have hLv : ∀ φ, @VsRel T φ (oqs 1 40) (bytesV vb) := fun φ => by
    have := oqs_rel (T := T) (φ := φ) (bytesV vb) 40 hvv
    rwa [bytesV_len, hvl] at this
  obtain ⟨xk, hxk, vk⟩ := row_rel (T := T) hk0 hk
  obtain ⟨xv, hxv, vv⟩ := row_rel (T := T) (by omega) hv
  have hIn : In (heapOf w) w := fun b o h => h
  let φ0 : Phi := phiOf 2 [(p, 0, 2), xk, xv]
  have f3 : φ0 3 = some (p, 0, 2) := rfl
  have f4 : φ0 4 = some xk := rfl
  have f5 : φ0 5 = some xv := rfl
  have hro1 : ∀ b, b ∈ put1L kb.length → b.wr = false := fun b hb => by
    simp only [put1L, List.mem_cons, List.not_mem_nil, or_false] at hb
    rcases hb with rfl | rfl | rfl <;> rfl
  have hr : @Rel T TZ φ0 (mkMem 2 0 .none (put1L kb.length)) w := by
    refine mkRel tz_glob (by decide) hgs rfl (by show 2 + 1 + 3 ≤ 65536; decide) hro1 (fun z hz => ?_) (fun i b hb => ?_) (fun b o h => by cases h)
    · simp only [List.mem_cons, List.not_mem_nil, or_false] at hz
      rcases hz with rfl | rfl | rfl
      · exact hS.lt
      · exact hxk.lt hIn
      · exact hxv.lt hIn
    · match i, hb with
      | 0, hb =>
        simp only [put1L, List.getElem?_cons_zero, Option.some.injEq] at hb
        subst hb
        exact hS.brel f3 (@VsRel.cons T _ _ _ _ _ (by rw [← hT0]; exact @VRel.opq T _ 0) (@VsRel.cons T _ _ _ _ _ (@VRel.any T _ _ rfl) (@VsRel.nil T _))) (fun v hv => by
          simp only [List.mem_cons, List.not_mem_nil, or_false] at hv
          rcases hv with rfl | rfl <;> rfl)
      | 1, hb =>
        simp only [put1L, List.getElem?_cons_succ, List.getElem?_cons_zero, Option.some.injEq] at hb
        subst hb
        exact brel_of hIn hxk f4 (hLk _) fun v hv => isOpq_cell (oqs_opq hv)
      | 2, hb =>
        simp only [put1L, List.getElem?_cons_succ, List.getElem?_cons_zero, Option.some.injEq] at hb
        subst hb
        exact brel_of hIn hxv f5 (hLv _) fun v hv => isOpq_cell (oqs_opq hv)
      | i + 3, hb => simp [put1L] at hb
  have hro := mkMem_ro (G := 2) (g0 := 0) (b0 := .none) (by decide) (by show 2 + 1 + 3 ≤ 65536; decide) rfl hro1
  have hargs : @VsRel T φ0 [.ptr 3 0, .slice 4 0 kb.length kb.length false 1, .slice 5 0 1 1 false 1] (#[.pointer (some ⟨p, 0, none⟩), k, v] : Array Value).toList := by
    refine @VsRel.cons T _ _ _ _ _ (@VRel.ptr T φ0 3 0 p 0 2 f3) (@VsRel.cons T _ _ _ _ _ (vk _ _ f4) (@VsRel.cons T _ _ _ _ _ ?_ (@VsRel.nil T _)))
    have := vv _ _ f5
    rwa [hvl] at this
  have ha0 : ActIs 46 { tmps := #[.pointer (some ⟨p, 0, none⟩), k, v] ++ Array.replicate (fn98.ntmps - (#[.pointer (some ⟨p, 0, none⟩), k, v] : Array Value).size) undef, defers := [] } := ⟨by simp [fn98_nt], rfl⟩
  have hreg : ∀ (t : Nat) (x : AVal), ([.ptr 3 0, .slice 4 0 kb.length kb.length false 1, .slice 5 0 1 1 false 1] : List AVal)[t]? = some x → @VRel T φ0 x (({ tmps := #[.pointer (some ⟨p, 0, none⟩), k, v] ++ Array.replicate (fn98.ntmps - (#[.pointer (some ⟨p, 0, none⟩), k, v] : Array Value).size) undef, defers := [] } : Act).tmps.getD t undef) :=
    fun t x ht => args_reg hargs ht
  generalize ({ tmps := #[.pointer (some ⟨p, 0, none⟩), k, v] ++ Array.replicate (fn98.ntmps - (#[.pointer (some ⟨p, 0, none⟩), k, v] : Array Value).size) undef, defers := [] } : Act) = a0 at ha0 hreg
  unfold put1Run at hrun
  split at hrun
  · rename_i vs1 m1 hq1
    split at hrun
    · rename_i x0 x13 xa xb mf hq2
      simp only [Bool.and_eq_true] at hrun
      obtain ⟨⟨e0, e13⟩, hfr, ⟨s1, s2⟩, habs⟩ := hrun
      have e0' := @aeqN_eq tok0 2 _ _ e0
      have e13' := @aeqN_eq tok0 2 _ _ e13
      subst e0'
      subst e13'
      rw [b98_is]
      refine @piece_ok TZ T KO (ko_ok T rfl) (ko_draw T rfl) 46 [R98] gr98 _ _ _ _ _ _ hq1 φ0 w a0 _ _ hr ha0 (by decide) (fun q hq => ?_) ?_ (fun i h => by cases h) (fun h => by cases h)
      · simp only [List.mem_cons, List.not_mem_nil, or_false] at hq
        rcases hq with rfl | rfl | rfl
        · exact ⟨(by decide : 0 < 4096), hreg 0 _ rfl⟩
        · exact ⟨(by decide : 1 < 4096), hreg 1 _ rfl⟩
        · exact ⟨(by decide : 2 < 4096), hreg 2 _ rfl⟩
      intro _ φ1 a1 w1 hst1 ha1 hv1
      refine wp_seq ?_
      refine region_cut tz_mixed (ko_ok T rfl) c98 pre98 g98 hq2 (@Step.rel T TZ _ _ _ _ _ _ hst1) ha1 (by decide) (@vals_pick T φ1 a1 _ _ (by decide) hv1) fun φ2 a2 w2 hst2 ha2 hv2 => ?_
      have hst := @Step.trans T TZ _ _ _ _ _ _ _ _ _ hst1 hst2
      have hleft := Left'.of hst hro
      have hsz : O98.size - 9 = 6 := by rw [z98]
      show wpAny TZ .any O98 _ (O98.size - 9) (L98 0) a2 w2
      rw [hsz]
      cases hv2 with
      | cons v0 hv2 =>
      cases hv2 with
      | cons v13 hv2 =>
      cases hv2 with
      | cons v18 hv2 =>
      obtain ⟨r1, r2⟩ := idRel (T := T) rfl tz_glob (@Step.rel T TZ _ _ _ _ _ _ hst) habs
      have ht := tells_new (by decide) hst hro hfr habs
      have g0 : a2.tmps.getD 0 undef = .pointer (some ⟨p, 0, none⟩) := by
        have v0' : @VRel T φ2 (.ptr 3 0) (a2.tmps.getD 0 undef) := v0
        generalize a2.tmps.getD 0 undef = c at v0'
        cases v0' with
        | ptr _ _ cb co sz hφ =>
          rw [@Step.ext T TZ _ _ _ _ _ _ hst 3 _ f3] at hφ
          cases hφ; rfl
      have g13 : a2.tmps.getD 13 undef = root := by
        have v13' : @VRel T φ2 (.opq 0) (a2.tmps.getD 13 undef) := v13
        generalize a2.tmps.getD 13 undef = c at v13'
        cases v13'; exact hT0
      have g18 : ∃ k' v', a2.tmps.getD 18 undef = .agg #[k', v'] ∧ @VRel T φ2 xa k' ∧ @VRel T φ2 xb v' := by
        have v18' : @VRel T φ2 (.agg [xa, xb]) (a2.tmps.getD 18 undef) := v18
        generalize a2.tmps.getD 18 undef = c at v18'
        cases v18' with
        | agg _ cs hcs hcc =>
          generalize hcl : cs.toList = L at hcs
          cases hcs with
          | @cons _ k' _ _ q1 q2 =>
          cases q2 with
          | @cons _ v' _ _ q3 q4 =>
          cases q4
          exact ⟨k', v', by rw [show cs = #[k', v'] by rw [← Array.toList_inj]; exact hcl], q1, q3⟩
      obtain ⟨k', v', g18, q1, q2⟩ := g18
      have hlen2 : 2 + 1 + ([.cells true (oqs kb.length 1), .cells true (oqs 1 40)] : List Blk).length ≤ 65536 := by show 2 + 1 + 2 ≤ 65536; decide
      obtain ⟨b1, b2⟩ := mkMem_at (G := 2) (by decide) hlen2 (i := 0) rfl
      obtain ⟨c1, c2⟩ := mkMem_at (G := 2) (by decide) hlen2 (i := 1) rfl
      refine hn a2 w2 k' v' ha2 hleft g0 g13 g18 ?_ ?_
      · exact row_back ht r1 hk0 b1 b2 (by rw [bytesV_len]; omega) (fun us hus => opq_unique (fun v hv => oqs_opq hv) hus (hLk φ2)) (r2 _ _ (absN_up s1) _ q1)
      · have := row_back ht r1 (by decide : 0 < 1) c1 c2 (vs := bytesV vb) (by rw [bytesV_len, hvl]) (fun us hus => opq_unique (fun v hv => oqs_opq hv) hus (hLv φ2)) (r2 _ _ (absN_up s2) _ q2)
        rw [hvl]; exact this
    · cases hrun
  · cases hrun
end Go.AM

namespace Go.AM
open Go.Proofs

/- ### Tree.Put behind the call of put -/
def put2Vals (xs : List Img) (j : Nat) : Value := ((xs.map ptrV)[j - 1]?).getD nilS
theorem put2Vals_cell (xs : List Img) (j : Nat) : (put2Vals xs j).oneCell' = true := by
  unfold put2Vals
  rw [List.getElem?_map]
  cases xs[j - 1]? <;> rfl
theorem put2L_wr {two : Bool} {n q : Nat} (hq : q < (mkMem 2 0 .none (put2L two n)).next) (hw : ((mkMem 2 0 .none (put2L two n)).get q).wr = true) : q = 3 := by
  have hn : (mkMem 2 0 .none (put2L two n)).next = 5 := addL_next (put2L two n) _
  rw [hn] at hq
  rw [mkMem_get (by decide) (by show 2 + 1 + 2 ≤ 65536; decide) (by omega)] at hw
  match q, hq with
  | 0, _ => cases hw
  | 1, _ => cases hw
  | 2, _ => cases hw
  | 3, _ => rfl
  | 4, _ => cases hw
theorem tz_put2 {w : World} (hgs : 2 ≤ w.heap.size) {H : Heap} (hH : In H w) {p n : Nat} (hp : H p = none) {root : Value} (hS : StructAt w p [root, .int .i64 (n : Int)]) (hn : n ≤ 40) {sl : Value} {xs : List Img} (hrow : RowAt H 1 sl xs.length (xs.map ptrV)) {sg : Sigs}
    (hcase : (∃ x, xs = [x] ∧ TreeIs H (ptrV x) sg) ∨ ∃ K1 K2 : Kid, xs = [K1.x, K2.x] ∧ sg = [sig K1, sig K2] ∧ KidAt H K1 ∧ KidAt H K2) {a : Act} (ha : ActIs 46 a) (g0 : a.tmps.getD 0 undef = .pointer (some ⟨p, 0, none⟩)) (g7 : a.tmps.getD 7 undef = sl) (g8 : a.tmps.getD 8 undef = .bool true)
    {Q : Exit → Act → World → Prop} (hQ : ∀ a' w', a'.defers = [] → LeftX p w w' → (∃ root' H', In H' w' ∧ H' p = none ∧ (∀ b o, H b = some o → H' b = some o) ∧ StructAt w' p [root', .int .i64 ((n + 1 : Nat) : Int)] ∧ TreeIs H' root' sg) → Q .ret a' w') : X98.wp TZ Q a w := by
  obtain ⟨two, hlen, hall⟩ : ∃ two : Bool, xs.length = kN two ∧ put2Run two n = true := by
    have h := List.all_eq_true.1 put2_all n (List.mem_range.2 (by omega))
    rw [Bool.and_eq_true] at h
    rcases hcase with ⟨x, rfl, _⟩ | ⟨K1, K2, rfl, _⟩
    · exact ⟨false, rfl, h.1⟩
    · exact ⟨true, rfl, h.2⟩
  have hk0 : 0 < xs.length := by rw [hlen]; cases two <;> decide
  have hk2 : xs.length ≤ 2 := by rw [hlen]; cases two <;> decide
  have hroot : root.oneCell' = true := by
    obtain ⟨_, _, _, _, _, h, _⟩ := hS
    exact h _ (by simp)
  let T : Tok := tokB noH (put2Vals xs) (put2Vals_cell xs)
  have hval : ∀ j u, (xs.map ptrV)[j]? = some u → T.val (1 + j) = u := fun j u hj => by
    show put2Vals xs (1 + j) = u
    unfold put2Vals
    rw [show 1 + j - 1 = j by omega, hj]; rfl
  have hL : ∀ φ, @VsRel T φ (oqs (kN two) 1) (xs.map ptrV) := fun φ => by
    have := oqs_rel (T := T) (φ := φ) (xs.map ptrV) 1 hval
    rwa [List.length_map, hlen] at this
  obtain ⟨xr, hxr, vr⟩ := row_rel (T := T) hk0 hrow
  rw [hlen] at vr
  have hne : xr.1 ≠ p := fun e => by
    obtain ⟨c, el, fz, h1, _⟩ := hxr
    rw [e, hp] at h1; cases h1
  let φ0 : Phi := phiOf 2 [(p, 0, 2), xr]
  have f3 : φ0 3 = some (p, 0, 2) := rfl
  have f4 : φ0 4 = some xr := rfl
  have hr : @Rel T TZ φ0 (mkMem 2 0 .none (put2L two n)) w := by
    refine mkRelW tz_glob (by decide) hgs rfl (by show 2 + 1 + 2 ≤ 65536; decide) (fun i b x hb hw hx => ⟨rfl, fun j y hy hji => ?_⟩) (fun z hz => ?_) (fun i b hb => ?_) (fun b o h => by cases h)
    · match i, hb with
      | 0, hb =>
        cases hx
        match j, hy with
        | 0, _ => exact absurd rfl hji
        | 1, hy => cases hy; exact hne
      | 1, hb => cases hb; cases hw
      | i + 2, hb => simp [put2L] at hb
    · simp only [List.mem_cons, List.not_mem_nil, or_false] at hz
      rcases hz with rfl | rfl
      · exact hS.lt
      · exact hxr.lt hH
    · match i, hb with
      | 0, hb =>
        simp only [put2L, List.getElem?_cons_zero, Option.some.injEq] at hb
        subst hb
        exact hS.brel f3 (@VsRel.cons T _ _ _ _ _ (@VRel.any T _ _ hroot) (@VsRel.cons T _ _ _ _ _ (@VRel.int T _ .i64 n) (@VsRel.nil T _))) (fun v hv => by
          simp only [List.mem_cons, List.not_mem_nil, or_false] at hv
          rcases hv with rfl | rfl <;> rfl)
      | 1, hb =>
        simp only [put2L, List.getElem?_cons_succ, List.getElem?_cons_zero, Option.some.injEq] at hb
        subst hb
        exact brel_of hH hxr f4 (hL _) fun v hv => isOpq_cell (oqs_opq hv)
      | i + 2, hb => simp [put2L] at hb
  have hwr : ∀ q b o s, q < (mkMem 2 0 .none (put2L two n)).next → ((mkMem 2 0 .none (put2L two n)).get q).wr = true → φ0 q = some (b, o, s) → b = p := fun q b o s hq hw hφ => by
    have := put2L_wr hq hw
    subst this
    rw [f3] at hφ; cases hφ; rfl
  unfold put2Run at hall
  split at hall
  · rename_i y m hq
    refine @one_ok TZ T KO (ko_ok T rfl) (ko_draw T rfl) 46 X98 gx98 _ _ _ _ _ _ hq φ0 w a Q hr ha (by decide) (fun q hq => ?_) (fun h => by cases h) (fun i h => by cases h) ?_
    · simp only [List.mem_cons, List.not_mem_nil, or_false] at hq
      rcases hq with rfl | rfl | rfl
      · refine ⟨(by decide : 0 < 4096), ?_⟩
        show @VRel T φ0 _ (a.tmps.getD 0 undef)
        rw [g0]; exact @VRel.ptr T φ0 3 0 p 0 2 f3
      · refine ⟨(by decide : 7 < 4096), ?_⟩
        show @VRel T φ0 _ (a.tmps.getD 7 undef)
        rw [g7]; exact vr _ _ f4
      · refine ⟨(by decide : 8 < 4096), ?_⟩
        show @VRel T φ0 _ (a.tmps.getD 8 undef)
        rw [g8]; exact @VRel.bool T φ0 true
    intro _ φ1 a1 w1 hst ha1 hv1
    have hl := leftX_of hst hwr
    have hext : ∀ q x, φ0 q = some x → φ1 q = some x := @Step.ext T TZ _ _ _ _ _ _ hst
    refine hQ a1 w1 ha1.defers hl ?_
    cases two with
    | false =>
      have habs : absMem (idMap 2 [3]) 0 .none [.cells false [.opq 1, .int .i64 (.ofNat (Nat.succ n))]] m = true := hall
      obtain ⟨r1, _⟩ := idRel (T := T) rfl tz_glob (@Step.rel T TZ _ _ _ _ _ _ hst) habs
      obtain ⟨b1, b2⟩ := mkMem_at (G := 2) (by decide) (l := [.cells false [.opq 1, .int .i64 (.ofNat (Nat.succ n))]]) (by show 2 + 1 + 1 ≤ 65536; decide) (i := 0) rfl
      obtain ⟨vs, hS1, hvs⟩ := StructAt.of (T := T) rfl (p := p) (n := 2) r1 b1 b2 (hext 3 _ f3) rfl
      cases hvs with
      | @cons _ rv _ _ q1 q2 =>
      cases q2 with
      | @cons _ nv _ _ q3 q4 =>
      cases q4
      cases q1
      cases q3
      rcases hcase with ⟨x, rfl, htree⟩ | ⟨K1, K2, rfl, _⟩
      · refine ⟨_, H, fun b o h => ?_, hp, fun b o h => h, hS1, ?_⟩
        · rw [hl.1 b (@lt_of_some tok0 w b _ (hH b o h)) (fun e => by rw [e, hp] at h; cases h)]; exact hH b o h
        · have e : T.val 1 = ptrV x := hval 0 _ rfl
          rw [e]; exact htree
      · cases hlen
    | true =>
      rcases hcase with ⟨x, rfl, htree⟩ | ⟨K1, K2, rfl, hsg, hk1, hk2⟩
      · cases hlen
      · unfold put2E at hall
        simp only at hall
        split at hall
        · rename_i qn _ _ _
          rw [Bool.and_eq_true] at hall
          obtain ⟨hfr, habs⟩ := hall
          obtain ⟨r1, _⟩ := idRel (T := T) rfl tz_glob (@Step.rel T TZ _ _ _ _ _ _ hst) habs
          have a3 : absPhi (idMap 2 [3, qn, 4]) φ1 3 = some (p, 0, 2) := hext 3 _ f3
          have a4 : absPhi (idMap 2 [3, qn, 4]) φ1 4 = φ1 qn := rfl
          have a5 : absPhi (idMap 2 [3, qn, 4]) φ1 5 = some xr := hext 4 _ f4
          have hlen3 : 2 + 1 + ([.cells false [.ptr 4 0, .int .i64 (.ofNat (Nat.succ n))], .cells true [.nilslice, .nilslice, .slice 5 0 2 2 false 1], .cells true (oqs 2 1)] : List Blk).length ≤ 65536 := by show 2 + 1 + 3 ≤ 65536; decide
          obtain ⟨b1, b2⟩ := mkMem_at (G := 2) (by decide) hlen3 (i := 0) rfl
          obtain ⟨c1, c2⟩ := mkMem_at (G := 2) (by decide) hlen3 (i := 1) rfl
          obtain ⟨vs, hS1, hvs⟩ := StructAt.of (T := T) rfl (p := p) (n := 2) r1 b1 b2 a3 rfl
          have hB := @Rel.blk T TZ _ _ _ r1 4 c1
          have c2' : (mkMem 2 0 .none [.cells false [.ptr 4 0, .int .i64 (.ofNat (Nat.succ n))], .cells true [.nilslice, .nilslice, .slice 5 0 2 2 false 1], .cells true (oqs 2 1)]).get 4 = .cells true [.nilslice, .nilslice, .slice 5 0 2 2 false 1] := c2
          have b2' : (mkMem 2 0 .none [.cells false [.ptr 4 0, .int .i64 (.ofNat (Nat.succ n))], .cells true [.nilslice, .nilslice, .slice 5 0 2 2 false 1], .cells true (oqs 2 1)]).get 3 = .cells false [.ptr 4 0, .int .i64 (.ofNat (Nat.succ n))] := b2
          rw [c2'] at hB
          obtain ⟨cb, co, c, el, fz, h1, h2, h3, h4, _⟩ := hB
          have h1' : absPhi (idMap 2 [3, qn, 4]) φ1 4 = some (cb, co, c.size) := h1
          have hlive := absMem_live (@Rel.bound T TZ _ _ _ (@Step.rel T TZ _ _ _ _ _ _ hst)) habs rfl (p := 4) (by show 4 < 6; decide) (by show ((mkMem 2 0 .none _).get 4).live = true; rw [c2']; rfl)
          have hlive' : qn < m.next ∧ (m.get qn).live = true := hlive
          have h5q : 5 ≤ qn := freshNs_ok hfr qn (by simp)
          have hnew : w.heap.size ≤ cb := by
            rcases Nat.lt_or_ge cb w.heap.size with hlt | hge
            · exfalso
              obtain ⟨q, o', s', g1, g2, g3⟩ := @Step.img T TZ _ _ _ _ _ _ hst qn cb co c.size h5q hlive'.1 hlive'.2 (by rw [← a4]; exact h1') hlt
              have e := hwr q cb o' s' g1 g2 g3
              subst e
              exact @Rel.inj T TZ _ _ _ r1 3 4 cb 0 2 co c.size b1 c1 (by decide) (by rw [b2']; rfl) (by rw [c2']; rfl) a3 h1'
            · exact hge
          generalize hvl : (c.toList.drop co).take ([.nilslice, .nilslice, .slice 5 0 2 2 false 1] : List AVal).length = ws at h4
          cases h4 with
          | @cons _ w1v _ _ z1 z2 =>
          cases z2 with
          | @cons _ w2v _ _ z3 z4 =>
          cases z4 with
          | @cons _ chl _ _ z5 z6 =>
          cases z6
          cases z1
          cases z3
          cases hvs with
          | @cons _ rv _ _ q1 q2 =>
          cases q2 with
          | @cons _ nv _ _ q3 q4 =>
          cases q4
          cases q3
          cases q1 with
          | ptr _ _ cb2 co2 sz2 hφ2 =>
            rw [h1'] at hφ2
            cases hφ2
            cases z5 with
            | slice _ _ _ _ _ _ cb3 co3 sz3 o3 cap3 p1 p2 p3 p4 p5 p6 =>
              rw [a5] at p1
              cases p1
              have ho3 := p5 (by decide)
              have hmono : ∀ b o, H b = some o → upd H w w1 b = some o := upd_mono hH
              refine ⟨ptrV (cb, co, c.size), upd H w w1, upd_inX hH hp hl, upd_none hS.lt hp, hmono, hS1, ?_⟩
              refine .many (cb, co, c.size) nilS [K1, K2] rfl hsg rfl ⟨_, ⟨c, el, fz, ?_, rfl, h3, hvl⟩, ?_, fun K hK => ?_⟩ (by show 1 < 2; decide)
              · unfold upd
                rw [if_neg (by show ¬ cb < _; omega)]; exact h2
              · exact .inr ⟨(cb3, co3, sz3), cap3, by show 0 < 2; decide, rfl, by rw [ho3]; rfl, p3, by show co3 + cap3 * 1 ≤ sz3; omega, hxr.mono hmono⟩
              · simp only [List.mem_cons, List.not_mem_nil, or_false] at hK
                rcases hK with rfl | rfl
                · exact hk1.mono hmono
                · exact hk2.mono hmono
        · cases hall
  · cases hall
end Go.AM

namespace Go.AM
open Go.Proofs

/-- TREE.PUT of a key that isn't there -/
theorem tz_put {KB' : Nat → Nat → Nat → Nat → Nat → KH} {fnx N : Nat} (R : BRuns TZ 2 159 fnx KB' N) (hN90 : N ≤ 700) {w : World} (hgs : 2 ≤ w.heap.size) {H : Heap} (hH : In H w) {p n : Nat} (hp : H p = none) {root : Value} (hS : StructAt w p [root, .int .i64 (n : Int)]) (hn : n ≤ 40)
    {sg : Sigs} (h : TreeIs H root sg) (hI : TInv sg) (hN : (allOf sg).length ≤ N) {k v : Value} {kb vb : List UInt8} (hk : RowAt (heapOf w) 1 k kb.length (bytesV kb)) (hv : RowAt (heapOf w) 1 v vb.length (bytesV vb)) (hvl : vb.length = 1) (hnk : kb.length = 18 ∨ kb.length = 26)
    (hnew : ∀ x, x ∈ allOf sg → x.kb ≠ kb) :
    Ends TZ 98 #[.pointer (some ⟨p, 0, none⟩), k, v] w fun _ w' => LeftX p w w' ∧ ∃ root' sg' H' e, In H' w' ∧ H' p = none ∧ (∀ b o, H b = some o → H' b = some o) ∧ StructAt w' p [root', .int .i64 ((n + 1 : Nat) : Int)] ∧ TreeIs H' root' sg' ∧ TInv sg' ∧
      e.kb = kb ∧ EntRow H' e ∧ (∀ x, x ∈ allOf sg' ↔ x = e ∨ x ∈ allOf sg) ∧ (allOf sg').length = (allOf sg).length + 1 := by
  right
  refine ⟨enter_run fn98_is fn98_name fn98_body, ?_⟩
  refine calls_of_wp fn98_is fn98_body ?_
  refine tz_put1 hgs hS hk hv hvl hnk fun a2 w2 k' v' ha2 hl2 g0 g13 g18 hk' hv' => ?_
  have hgs2 : 2 ≤ w2.heap.size := Nat.le_trans hgs hl2.2.1
  have hH1 := upd_in hH hl2
  have hrow1 : EntRow (upd H w w2) ⟨kb, k', v'⟩ := ⟨hk'.mono upd_no, vb, hvl, hv'.mono upd_no⟩
  have hm1 : ∀ b o, H b = some o → upd H w w2 b = some o := upd_mono hH
  have hput := tree_put R hN90 hgs2 hH1 (h.mono hm1) hI hN (e := ⟨kb, k', v'⟩) hrow1.ok (fun e => by have e' : kb = [] := e; rw [e'] at hnk; simp at hnk) hnew
  refine any_call o98_9 r98_9 (R' := _) (by
    show Ends TZ 159 #[a2.tmps.getD 13 undef, a2.tmps.getD 18 undef] w2 _
    rw [g13, g18]; exact hput) fun c w3 hR => ?_
  obtain ⟨hl3, sl, xs, sg', rfl, hrow, hI', hmem, hlen, hcase⟩ := hR
  have ha3 := put_is ha2 (some 19) (.tuple #[sl, .bool true])
  have e3 : (a2.put (some 19) (.tuple #[sl, .bool true])).tmps.getD 19 undef = .tuple #[sl, .bool true] := get_same ha2 (by decide) _
  have e30 := get_other ha2 (by decide : 19 < 46) (.tuple #[sl, .bool true]) (t := 0) (by decide)
  rw [g0] at e30
  generalize a2.put (some 19) (.tuple #[sl, .bool true]) = a3 at ha3 e3 e30
  refine any_val (L := L98 1) o98_10 r98_10 (fun o ho => run_mv ho) ?_
  rw [e3]
  have ha4 := put_is ha3 (some 9) (.tuple #[sl, .bool true])
  have e4 : (a3.put (some 9) (.tuple #[sl, .bool true])).tmps.getD 9 undef = .tuple #[sl, .bool true] := get_same ha3 (by decide) _
  have e40 := get_other ha3 (by decide : 9 < 46) (.tuple #[sl, .bool true]) (t := 0) (by decide)
  rw [e30] at e40
  generalize a3.put (some 9) (.tuple #[sl, .bool true]) = a4 at ha4 e4 e40
  refine any_first (L := L98 2) o98_11 s98 f98_11 r98_11 (fun c a w v h => h) (v := sl) (fun o w ho => run_ex ho e4 rfl) ?_
  have ha5 := put_is ha4 (some 20) sl
  have e5 : (a4.put (some 20) sl).tmps.getD 20 undef = sl := get_same ha4 (by decide) _
  have e59 := get_other ha4 (by decide : 20 < 46) sl (t := 9) (by decide)
  have e50 := get_other ha4 (by decide : 20 < 46) sl (t := 0) (by decide)
  rw [e40] at e50
  rw [e4] at e59
  generalize a4.put (some 20) sl = a5 at ha5 e5 e59 e50
  refine any_first (L := L98 3) o98_12 s98 f98_12 r98_12 (fun c a w v h => h) (v := .bool true) (fun o w ho => run_ex ho e59 rfl) ?_
  have ha6 := put_is ha5 (some 21) (.bool true)
  have e6 : (a5.put (some 21) (.bool true)).tmps.getD 21 undef = .bool true := get_same ha5 (by decide) _
  have e620 := get_other ha5 (by decide : 21 < 46) (.bool true) (t := 20) (by decide)
  have e60 := get_other ha5 (by decide : 21 < 46) (.bool true) (t := 0) (by decide)
  rw [e5] at e620
  rw [e50] at e60
  generalize a5.put (some 21) (.bool true) = a6 at ha6 e6 e620 e60
  refine any_val (L := L98 4) o98_13 r98_13 (fun o ho => run_as ho) ?_
  rw [e620]
  have ha7 := put_is ha6 (some 7) sl
  have e7 : (a6.put (some 7) sl).tmps.getD 7 undef = sl := get_same ha6 (by decide) _
  have e721 := get_other ha6 (by decide : 7 < 46) sl (t := 21) (by decide)
  have e70 := get_other ha6 (by decide : 7 < 46) sl (t := 0) (by decide)
  rw [e6] at e721
  rw [e60] at e70
  generalize a6.put (some 7) sl = a7 at ha7 e7 e721 e70
  refine any_val (L := L98 5) o98_14 r98_14 (fun o ho => run_as ho) ?_
  rw [e721]
  have ha8 := put_is ha7 (some 8) (.bool true)
  have e8 : (a7.put (some 8) (.bool true)).tmps.getD 8 undef = .bool true := get_same ha7 (by decide) _
  have e87 := get_other ha7 (by decide : 8 < 46) (.bool true) (t := 7) (by decide)
  have e80 := get_other ha7 (by decide : 8 < 46) (.bool true) (t := 0) (by decide)
  rw [e7] at e87
  rw [e70] at e80
  generalize a7.put (some 8) (.bool true) = a8 at ha8 e8 e87 e80
  refine wpAny_done (listed := L98 6) r98_15 ?_ 0
  show X98.wp TZ _ a8 w3
  have hgs3 : 2 ≤ w3.heap.size := Nat.le_trans hgs2 hl3.2.1
  have hp1 : upd H w w2 p = none := upd_none hS.lt hp
  have hp2 : upd (upd H w w2) w2 w3 p = none := upd_none (Nat.lt_of_lt_of_le hS.lt hl2.2.1) hp1
  have hS3 : StructAt w3 p [root, .int .i64 (n : Int)] := by
    obtain ⟨c, el, fz, h1, h2⟩ := hS
    refine ⟨c, el, fz, ?_, h2⟩
    have hlt := @lt_of_some tok0 w p _ h1
    rw [hl3.1 p (Nat.lt_of_lt_of_le hlt hl2.2.1), hl2.1 p hlt]; exact h1
  refine tz_put2 hgs3 (upd_in hH1 hl3) hp2 hS3 hn hrow hcase ha8 e80 e87 e8 fun a9 w9 hd hl9 ⟨root', H', k1, k2, k3, k4, k5⟩ => ?_
  refine ⟨hd, _, results_one fn98_res _ w9, _, rfl, (LeftX.of hl2).trans ((LeftX.of hl3).trans hl9), root', sg', H', ⟨kb, k', v'⟩, k1, k2, fun b o h => k3 b o (upd_mono hH1 b o (hm1 b o h)), k4, k5, hI', rfl, ?_, hmem, hlen⟩
  exact (hrow1.mono (upd_mono hH1)).mono k3
end Go.AM

namespace Go.AM
open Go.Proofs
set_option maxRecDepth 100000
theorem clone1 : cloneRun KO 82 2 1 = true := by kernel_rfl
theorem clone10 : cloneRun KO 82 2 10 = true := by kernel_rfl
theorem clone18 : cloneRun KO 82 2 18 = true := by kernel_rfl
theorem clone26 : cloneRun KO 82 2 26 = true := by kernel_rfl
end Go.AM

namespace Go.AM
open Go.Proofs

/- ### stand-ins for node.next and bytes.Clone: tokens 0 the root, 4 and 5 the found pair's key and value -/
def bytesA (bs : List UInt8) : List AVal := bs.map fun x => .int .u8 (x.toNat : Int)
noncomputable def nextX (kc : List AVal) (r : Bool) (args : List AVal) (mem : Mem) : R :=
  onL (.fail 190) (fun a rest => arg2 rest fun s b => match a, s, b with
    | .opq 0, .slice B 0 n _ _ 1, .bool false => (mem.get B).onCells fun _ cs => cond' (.ok (.tuple [.agg (cond' [.opq 4, .opq 5] [.any, .any] r), .bool r]) mem) (.fail 191) (and (and (Nat.beq n (lenL kc)) (Nat.ble n (lenL cs))) (zipB (aeqN 2) kc cs))
    | _, _, _ => .fail 192) args
theorem zip_pre : ∀ {kc cs : List AVal}, zipB (aeqN 2) kc cs = true → kc.length ≤ cs.length → cs.take kc.length = kc
  | [], cs, _, _ => by simp
  | a :: kc, [], _, hl => by simp at hl
  | a :: kc, b :: cs, h, hl => by
    have h' : cond' (zipB (aeqN 2) kc cs) false (aeqN 2 a b) = true := h
    rw [cond_if] at h'
    split at h'
    rotate_left
    · cases h'
    rename_i h1
    have h2 := h'
    have e := @aeqN_eq tok0 2 _ _ h1
    subst e
    rw [List.length_cons, List.take_succ_cons, zip_pre h2 (by simpa using hl)]
theorem vals_bytes {T : Tok} {φ : Phi} : ∀ {bs : List UInt8} {vs : List Value}, @VsRel T φ (bytesA bs) vs → vs = bytesV bs
  | [], _, h => by cases h; rfl
  | b :: bs, vs, h => by
    have h' : @VsRel T φ (.int .u8 (b.toNat : Int) :: bytesA bs) vs := h
    cases h' with
    | cons h1 h2 =>
      cases h1
      rw [vals_bytes h2]; rfl
theorem bytesA_rel {T : Tok} {φ : Phi} : ∀ (bs : List UInt8), @VsRel T φ (bytesA bs) (bytesV bs)
  | [] => @VsRel.nil T φ
  | b :: bs => @VsRel.cons T φ _ _ _ _ (@VRel.int T φ .u8 (b.toNat : Int)) (bytesA_rel bs)
theorem vsrel_take {T : Tok} {φ : Phi} : ∀ {l : List AVal} {vs : List Value} (n : Nat), @VsRel T φ l vs → @VsRel T φ (l.take n) (vs.take n)
  | _, _, 0, _ => @VsRel.nil T φ
  | [], _, n + 1, h => by cases h; exact @VsRel.nil T φ
  | a :: l, _, n + 1, h => by
    cases h with
    | cons h1 h2 => exact @VsRel.cons T φ _ _ _ _ h1 (vsrel_take n h2)
theorem rel_two {T : Tok} {φ : Phi} {m : Mem} {w : World} (hr : @Rel T TZ φ m w) : 2 ≤ w.heap.size := by
  obtain ⟨sz, h⟩ := @Rel.glob T TZ _ _ _ hr 1 (by rw [tz_glob]; decide)
  exact @Rel.heap T TZ _ _ _ hr 1 1 0 sz h (by rw [tz_glob]; decide)
theorem nextX_ok {T : Tok} {KB' : Nat → Nat → Nat → Nat → Nat → KH} {fp N : Nat} (R : BRuns TZ 2 fp 83 KB' N) (hN90 : N ≤ 700) {sg : Sigs} {kb : List UInt8} (hkb : kb ≠ []) (htree : TreeIs T.hold (T.val 0) sg) (hI : TInv sg) (hN : (allOf sg).length ≤ N) (hnew : ∀ x, x ∈ allOf sg → x.kb ≠ kb)
    {kc : List AVal} (hkc : kc = bytesA kb) {r : Bool} (hres : ∀ o, IsNext kb (allOf sg) o → (r = false → o = none) ∧ (r = true → ∃ e, o = some e ∧ T.val 4 = e.k ∧ T.val 5 = e.v)) : @XSound T TZ 83 (nextX kc r) := by
  intro args m v m' h φ w cargs hr hv
  subst hkc
  obtain ⟨a, rest, rfl, h1⟩ := onL_ok h
  obtain ⟨s, b, rfl, h2⟩ := arg2_ok h1
  split at h2
  · rename_i B n cp ex
    obtain ⟨ro, cs, hB, h3⟩ := onCells_ok h2
    obtain ⟨h4, h5⟩ := cond_t h3
    simp only [Bool.and_eq_true, beq_true, ble_true, lenL_eq] at h4
    obtain ⟨⟨hn, hnc⟩, hz⟩ := h4
    cases h5
    generalize hcl : cargs.toList = L at hv
    cases hv with
    | @cons _ rv _ _ v1 hv =>
    cases hv with
    | @cons _ sv _ _ v2 hv =>
    cases hv with
    | @cons _ bv _ _ v3 hv =>
    cases hv
    cases v1
    cases v3
    have hca : cargs = #[T.val 0, sv, .bool false] := by rw [← Array.toList_inj]; exact hcl
    rw [hca]
    have hlen : (bytesA kb).length = kb.length := List.length_map _
    rw [hlen] at hn
    have hk0 : 0 < kb.length := List.length_pos_iff.2 hkb
    have hbytes : BytesAt (heapOf w) sv kb := by
      cases v2 with
      | slice _ _ _ _ _ _ cb co sz o' cap' q1 q2 q3 q4 q5 q6 =>
        have hBr := @Rel.blk T TZ _ _ _ hr B (@Rel.dom T TZ _ _ _ hr _ _ q1)
        rw [hB] at hBr
        obtain ⟨cb2, co2, c, el, fz, g1, g2, g3, g4, _⟩ := hBr
        rw [q1] at g1
        cases g1
        have ho := q5 (by omega)
        refine .inr ⟨cb, o', cap', c, el, fz, by rw [hn], g2, ?_⟩
        have h6 := vsrel_take (T := T) (φ := φ) kb.length g4
        rw [← hlen, zip_pre hz (by omega)] at h6
        have h7 := vals_bytes h6
        rw [List.take_take, Nat.min_eq_left (by omega), hlen] at h7
        rw [ho, Nat.add_zero]
        exact h7
    have hheld : ∀ b o, T.hold b = some o → heapOf w b = some o := @Rel.held T TZ _ _ _ hr
    refine (tree_next R hN90 (rel_two hr) (H := heapOf w) (fun b o h => h) (htree.mono hheld) hI hN hbytes hkb hnew).mono fun cv w' ⟨hl, o, ht, hnx⟩ => ⟨φ, @Step.grow TZ T _ _ _ _ hr hl.1 hl.2.1 hl.2.2.1 hl.2.2.2.1 hl.2.2.2.2, ?_⟩
    obtain ⟨k1, k2⟩ := hres o hnx
    have two : ∀ (x y : AVal) (a b : Value), x.isCell = true → y.isCell = true → @VRel T φ x a → @VRel T φ y b → @VRel T φ (.tuple [.agg [x, y], .bool r]) (.tuple #[.agg #[a, b], .bool r]) := fun x y a b hx hy h1 h2 =>
      @VRel.tuple T φ _ _ (@VsRel.cons T φ _ _ _ _ (@VRel.agg T φ _ _ (@VsRel.cons T φ _ _ _ _ h1 (@VsRel.cons T φ _ _ _ _ h2 (@VsRel.nil T φ))) (fun v hv => by
        simp only [List.mem_cons, List.not_mem_nil, or_false] at hv
        rcases hv with rfl | rfl
        · exact hx
        · exact hy)) (@VsRel.cons T φ _ _ _ _ (@VRel.bool T φ r) (@VsRel.nil T φ)))
    cases r with
    | false =>
      rw [k1 rfl] at ht
      obtain ⟨a, b, rfl, ha, hb⟩ := ht
      exact two _ _ _ _ rfl rfl (@VRel.any T φ a ha) (@VRel.any T φ b hb)
    | true =>
      obtain ⟨e, rfl, e4, e5⟩ := k2 rfl
      have ht' : cv = .tuple #[.agg #[e.k, e.v], .bool true] := ht
      rw [ht']
      exact two _ _ _ _ rfl rfl (by rw [← e4]; exact @VRel.opq T φ 4) (by rw [← e5]; exact @VRel.opq T φ 5)
  · cases h2
noncomputable def cloneX (kc : List AVal) (args : List AVal) (mem : Mem) : R :=
  arg1 args fun a => match a with
    | .opq 4 => cond' (.ok (.slice mem.next 0 (lenL kc) (lenL kc) false 1) ⟨Nat.succ mem.next, putT mem.next (.cells true kc) mem.t⟩) (.fail 194) (and (Nat.ble 1 (lenL kc)) (Nat.ble (Nat.succ mem.next) 65536))
    | .opq 5 => cond' (.ok (.slice mem.next 0 1 1 false 1) ⟨Nat.succ mem.next, putT mem.next (.cells true [.any]) mem.t⟩) (.fail 194) (and (Nat.ble 1 (lenL kc)) (Nat.ble (Nat.succ mem.next) 65536))
    | _ => .fail 195
theorem cloneNew {T : Tok} {kc : List AVal} {v : Value} {vs : List Value} (hrun : cloneRun KO 82 2 kc.length = true) (h0 : 0 < kc.length) (hrow : RowAt T.hold 1 v kc.length vs) (hc : ∀ u, u ∈ vs → u.oneCell' = true) (hkc : ∀ φ, @VsRel T φ kc vs) (hkcell : ∀ x, x ∈ kc → x.isCell = true) {φ : Phi} {m : Mem} {w : World} (hr : @Rel T TZ φ m w) (hm : m.next + 1 ≤ 65536) :
    Ends TZ 82 #[v] w fun cv w' => ∃ φ', @Step T TZ φ m w φ' ⟨m.next + 1, putT m.next (.cells true kc) m.t⟩ w' ∧ @VRel T φ' (.slice m.next 0 kc.length kc.length false 1) cv := by
  have hheld : ∀ b o, T.hold b = some o → w.heap[b]? = some o := @Rel.held T TZ _ _ _ hr
  refine (clone_ok tz_glob (by decide) (by decide) ko_ok hrun h0 (rel_two hr) hheld hrow hc).mono fun cv w' ⟨hl, hrow'⟩ => ?_
  rcases hrow' with ⟨e, _⟩ | ⟨x, cap, h1, h2, rfl, h4, h5, c, el, fz, g1, g2, g3, g4⟩
  · omega
  unfold upd at g1
  split at g1
  · cases g1
  rename_i hge
  have hlt : x.1 < w'.heap.size := @lt_of_some tok0 w' x.1 _ g1
  have hlen := @VsRel.length T φ _ _ (hkc φ)
  refine ⟨_, @Step.add TZ T φ m w hr w' (.cells true kc) x.1 x.2.1 x.2.2 (by omega) hl.1 hl.2.1 hl.2.2.1 hl.2.2.2.1 hl.2.2.2.2 (by omega) hlt ?_, ?_⟩
  · refine ⟨x.1, x.2.1, c, el, fz, (if_pos rfl).trans (by rw [← g2]), g1, by omega, ?_, hkcell, fun h => by cases h⟩
    rw [← hlen, g4]; exact hkc _
  · exact @VRel.slice T _ m.next 0 kc.length kc.length false 1 x.1 x.2.1 x.2.2 x.2.1 cap (by simp) (Nat.le_refl _) h4 (fun h => by cases h) (fun _ => rfl) (by omega)
theorem cloneX_ok {T : Tok} {kc : List AVal} {vs vs5 : List Value} (hrun : 0 < kc.length → cloneRun KO 82 2 kc.length = true) (hrow : 0 < kc.length → RowAt T.hold 1 (T.val 4) kc.length vs) (hc : ∀ u, u ∈ vs → u.oneCell' = true) (hkc : ∀ φ, @VsRel T φ kc vs) (hkcell : ∀ x, x ∈ kc → x.isCell = true)
    (hrow5 : 0 < kc.length → RowAt T.hold 1 (T.val 5) 1 vs5) (hc5 : ∀ u, u ∈ vs5 → u.oneCell' = true) : @XSound T TZ 82 (cloneX kc) := by
  intro args m v m' h φ w cargs hr hv
  obtain ⟨a, rfl, h1⟩ := arg1_ok h
  generalize hcl : cargs.toList = L at hv
  cases hv with
  | @cons _ av _ vl v1 hv =>
  cases hv
  have hca : cargs = #[av] := by rw [← Array.toList_inj]; exact hcl
  rw [hca]
  split at h1
  · obtain ⟨h2, h3⟩ := cond_t h1
    simp only [Bool.and_eq_true, ble_true, lenL_eq] at h2
    cases h3
    cases v1
    rw [lenL_eq]
    exact cloneNew (hrun h2.1) h2.1 (hrow h2.1) hc hkc hkcell hr h2.2
  · obtain ⟨h2, h3⟩ := cond_t h1
    simp only [Bool.and_eq_true, ble_true, lenL_eq] at h2
    cases h3
    cases v1
    have hrow5' := hrow5 h2.1
    have hv5 : vs5.length = 1 := by rcases hrow5' with ⟨e, _⟩ | ⟨_, _, _, h, _⟩ <;> omega
    obtain ⟨u, rfl⟩ : ∃ u, vs5 = [u] := by
      match vs5, hv5 with
      | [u], _ => exact ⟨u, rfl⟩
    exact cloneNew (kc := [.any]) clone1 (by decide) hrow5' hc5 (fun φ => @VsRel.cons T φ _ _ _ _ (@VRel.any T φ u (hc5 u (by simp))) (@VsRel.nil T φ)) (fun x hx => by rw [List.mem_singleton] at hx; subst hx; rfl) hr h2.2
  · cases h1
end Go.AM

namespace Go.AM
open Go.Proofs

/- ### one round of indexed by the abstract machine: a row's kinds are numbers, 4 is NULL -/
noncomputable def valA (c : Nat) : List AVal := cond' [.int .i64 0, .int .i64 0, .str []] [.int .i64 2, .int .i64 (.ofNat c), .str []] (Nat.beq c 4)
noncomputable def keyA (c : Nat) : List AVal := cond' [.int .u8 0] [.int .u8 2, .int .u8 128, .int .u8 0, .int .u8 0, .int .u8 0, .int .u8 0, .int .u8 0, .int .u8 0, .int .u8 (.ofNat c)] (Nat.beq c 4)
def appV : List AVal → List AVal → List AVal
  | [], y => y
  | x :: l, y => x :: appV l y
def idA : List AVal := [.int .u8 0, .int .u8 0, .int .u8 0, .int .u8 0, .int .u8 0, .int .u8 0, .int .u8 0, .sym .u8 0]
def anyV : Nat → List AVal
  | 0 => []
  | n + 1 => .any :: anyV n
def symMap (ns : List Nat) : Map := ⟨2, ns, [.sym .u64 0], fun _ => .bad, fun i => .opq i⟩
/-- what a look told: nothing; a pair whose key has so many bytes; a pair of these kinds -/
inductive Fnd where
  | none
  | len (n : Nat)
  | kinds (x y : Nat)
noncomputable def keyF (c : Nat) : List AVal := cond' (anyV 9) (keyA c) (Nat.beq c 5)
noncomputable def fndA : Fnd → List AVal
  | .none => []
  | .len n => anyV n
  | .kinds x y => appV (keyF x) (appV (keyF y) (anyV 8))
def fndB : Fnd → Bool
  | .none => false
  | _ => true
noncomputable def XA (x y : Nat) (g : Fnd) : Stand := fun f => match f with
  | 83 => some ⟨nextX (appV (keyA x) (keyA y)) (fndB g)⟩
  | 82 => some ⟨cloneX (fndA g)⟩
  | _ => none
/-- the memory: the tree's struct, the key's, its columns, the row, its values -/
noncomputable def idxL (sw : Bool) (x y : Nat) : List Blk :=
  [.cells true [.opq 0, .any], .cells true [.any, .slice 5 0 2 2 false 1, .bool true, .any], .cells true (cond' [.int .i64 1, .int .i64 0] [.int .i64 0, .int .i64 1] sw), .cells true [.sym .u64 0, .slice 7 0 2 2 false 3],
    .cells true (cond' (appV (valA y) (valA x)) (appV (valA x) (valA y)) sw)]
def idxR0 : List (Nat × AVal) := [(2, .ptr 4 0), (6, .ptr 3 0), (22, .ptr 6 0), (18, .opq 1), (19, .opq 2), (20, .opq 3)]
/-- the row is put: what is known behind the region's first operations -/
noncomputable def idxEnd (x y : Nat) (vs : List AVal) (m : Mem) : Bool :=
  match vs with
  | [x2, x6, x18, x19, x20, x74, x79, x82] =>
    and (and (and (aeqN 2 x2 (.ptr 4 0)) (aeqN 2 x6 (.ptr 3 0))) (and (aeqN 2 x18 (.opq 1)) (and (aeqN 2 x19 (.opq 2)) (aeqN 2 x20 (.opq 3))))) (and (aeqN 2 x74 (.ptr 3 0))
      (and (and (absN (symMap [nmOf x79, nmOf x82]) 2 (.slice 3 0 (lenL (appV (keyA x) (appV (keyA y) idA))) (lenL (appV (keyA x) (appV (keyA y) idA))) false 1) x79) (absN (symMap [nmOf x79, nmOf x82]) 2 (.slice 4 0 1 1 false 1) x82))
        (absMem (symMap [nmOf x79, nmOf x82]) 0 .none [.cells true (appV (keyA x) (appV (keyA y) idA)), .cells true [.sym .u8 0]] m)))
  | _ => false
noncomputable def idxOk (P : Program) (K : KH) (O4 : Array Oper) (os : List Oper) (cs : List Code) (pre : Array Oper) (sw : Bool) (x y : Nat) : Bool :=
  match opsRun P 86 K O4 os idxR0 [2, 6, 8, 18, 19, 20] (mkMem 2 0 .none (idxL sw x y)) with
  | .ok (.tuple v1) m1 => (match pieceRun P 86 K cs ⟨true, fun _ => false, false⟩ (List.zip [2, 6, 8, 18, 19, 20] v1) [2, 6, 8, 11, 18, 19, 20] m1 with
    | .ok (.tuple v2) m2 => (match preRun P 86 K pre (List.zip [2, 6, 8, 11, 18, 19, 20] v2) [2, 6, 18, 19, 20, 74, 79, 82] m2 with
      | .ok (.tuple v3) m3 => idxEnd x y v3 m3
      | _ => false)
    | _ => false)
  | _ => false
noncomputable def idxBad (vs : List AVal) (m : Mem) : Bool :=
  match vs with
  | [x4, .iface t5 x5] => and (and (aeqN 2 x4 .nilptr) (Nat.beq t5 118)) (and (freshNs 8 [nmOf x5]) (and (absN (symMap [nmOf x5]) 2 (.ptr 3 0) x5) (absMem (symMap [nmOf x5]) 0 .none [.cells true [.str [107, 101, 121], .iface 101 (.int .i64 5)]] m)))
  | _ => false
noncomputable def idxErr (P : Program) (K : KH) (O4 : Array Oper) (os : List Oper) (cs : List Code) (sw : Bool) (x y : Nat) : Bool :=
  match opsRun P 86 K O4 os idxR0 [2, 6, 8, 18, 19, 20] (mkMem 2 0 .none (idxL sw x y)) with
  | .ok (.tuple v1) m1 => (match pieceRun P 86 K cs ⟨false, fun _ => false, true⟩ (List.zip [2, 6, 8, 18, 19, 20] v1) [4, 5] m1 with
    | .ok (.tuple v2) m2 => idxBad v2 m2
    | _ => false)
  | _ => false
noncomputable def B53 : Code := bodyOf TZ 53
def blkOf' : Code → Code
  | .block _ b => b
  | c => c
def loopOf' : Code → Code
  | .block _ (.loop b) => b
  | c => c
noncomputable def LB53 : Code := loopOf' (sr (sl (sr (sr B53))))
noncomputable def BD53 : Code := blkOf' (sl (sr (sr LB53)))
noncomputable def B5 : Code := sr BD53
noncomputable def O53_4 : Array Oper := opsOf (sl BD53)
noncomputable def C53 : List Code := [sl B5, sl (sr B5), sl (sr (sr B5)), sl (sr (sr (sr B5))), sl (sr (sr (sr (sr B5))))]
noncomputable def O53_13 : Array Oper := opsOf (sr (sr (sr (sr (sr B5)))))
noncomputable def Pre53 : Array Oper := (O53_13.toList.take 9).toArray
noncomputable def KA (x y : Nat) (g : Fnd) : KH := callX TZ E1 (XA x y g) 60
noncomputable def iOk (sw : Bool) (x y : Nat) (g : Fnd) : Bool := idxOk TZ (KA x y g) O53_4 (O53_4.toList.drop 1) C53 Pre53 sw x y
noncomputable def iErr (sw : Bool) (x y : Nat) : Bool := idxErr TZ (KA x y (.kinds x y)) O53_4 (O53_4.toList.drop 1) C53 sw x y
/-- all that a round may find -/
noncomputable def iRow (sw : Bool) (x y : Nat) : Bool :=
  cond' (and (iOk sw x y .none) (and (iOk sw x y (.len 18)) (iOk sw x y (.len 26))))
    (and (and (iOk sw x y .none) (iOk sw x y (.len 18))) (and (and (allLt (fun j => or (Nat.beq j x) (iOk sw x y (.kinds j 5))) 4) (allLt (fun j => or (Nat.beq j y) (iOk sw x y (.kinds x j))) 4)) (iErr sw x y)))
    (or (Nat.beq x 4) (Nat.beq y 4))
end Go.AM

namespace Go.AM

/- ### keys of rows -/
def keyB (c : Nat) : List UInt8 := if c = 4 then [0] else [2, 128, 0, 0, 0, 0, 0, 0, UInt8.ofNat c]
def idB (id : Nat) : List UInt8 := [0, 0, 0, 0, 0, 0, 0, UInt8.ofNat id]
/-- a row: its number, the kinds of its two values (4: NULL) -/
structure RowD where
  id : Nat
  a : Nat
  b : Nat
def kx (sw : Bool) (r : RowD) : Nat := if sw then r.b else r.a
def ky (sw : Bool) (r : RowD) : Nat := if sw then r.a else r.b
def preK (sw : Bool) (r : RowD) : List UInt8 := keyB (kx sw r) ++ keyB (ky sw r)
def fullK (sw : Bool) (r : RowD) : List UInt8 := preK sw r ++ idB r.id
structure RowOk (r : RowD) : Prop where
  a : r.a ≤ 4
  b : r.b ≤ 4
  nn : ¬ (r.a = 4 ∧ r.b = 4)
  pos : 1 ≤ r.id
  hi : r.id ≤ 127
theorem RowOk.x {r : RowD} (h : RowOk r) (sw : Bool) : kx sw r ≤ 4 ∧ ky sw r ≤ 4 ∧ ¬ (kx sw r = 4 ∧ ky sw r = 4) := by
  obtain ⟨h1, h2, h3, _, _⟩ := h
  cases sw
  · exact ⟨h1, h2, h3⟩
  · exact ⟨h2, h1, fun e => h3 ⟨e.2, e.1⟩⟩
/-- two rows that a unique key doesn't take -/
def Same (r s : RowD) : Prop := r.a < 4 ∧ r.b < 4 ∧ r.a = s.a ∧ r.b = s.b
def NoDup (l : List RowD) : Prop := l.Pairwise fun r s => ¬ Same r s
theorem keyB_4 : keyB 4 = [0] := rfl
theorem keyB_lt {c : Nat} (h : c < 4) : keyB c = [2, 128, 0, 0, 0, 0, 0, 0, UInt8.ofNat c] := if_neg (by omega)
theorem keyB_pre {x y : Nat} {s t : List UInt8} (hx : x ≤ 4) (hy : y ≤ 4) (h : keyB x ++ s = keyB y ++ t) : x = y ∧ s = t := by
  rcases Nat.lt_or_eq_of_le hx with hx | rfl
  · rcases Nat.lt_or_eq_of_le hy with hy | rfl
    · rw [keyB_lt hx, keyB_lt hy] at h
      simp only [List.cons_append, List.nil_append, List.cons.injEq, true_and] at h
      refine ⟨?_, h.2⟩
      have := congrArg UInt8.toNat h.1
      simp at this
      omega
    · rw [keyB_lt hx, keyB_4] at h
      simp at h
  · rcases Nat.lt_or_eq_of_le hy with hy | rfl
    · rw [keyB_lt hy, keyB_4] at h
      simp at h
    · rw [keyB_4] at h
      simp at h
      exact ⟨rfl, h⟩
theorem pre_ne_full {sw : Bool} {r s : RowD} (hr : RowOk r) (hs : RowOk s) : fullK sw s ≠ preK sw r := by
  intro h
  obtain ⟨a1, a2, _⟩ := hr.x sw
  obtain ⟨b1, b2, _⟩ := hs.x sw
  unfold fullK preK at h
  rw [List.append_assoc] at h
  obtain ⟨_, h2⟩ := keyB_pre b1 a1 h
  have h3 : keyB (ky sw s) ++ idB s.id = keyB (ky sw r) ++ [] := by rw [List.append_nil]; exact h2
  obtain ⟨_, h4⟩ := keyB_pre b2 a2 h3
  cases h4
theorem full_inj {sw : Bool} {r s : RowD} (hr : RowOk r) (hs : RowOk s) (h : fullK sw r = fullK sw s) : r.id = s.id := by
  obtain ⟨a1, a2, _⟩ := hr.x sw
  obtain ⟨b1, b2, _⟩ := hs.x sw
  unfold fullK preK at h
  rw [List.append_assoc, List.append_assoc] at h
  obtain ⟨_, h2⟩ := keyB_pre a1 b1 h
  obtain ⟨_, h4⟩ := keyB_pre a2 b2 h2
  simp only [idB, List.cons.injEq, true_and, and_true] at h4
  have := congrArg UInt8.toNat h4
  have h5 := hr.hi
  have h6 := hs.hi
  simp at this
  omega
theorem full_len {sw : Bool} {r : RowD} (hr : RowOk r) : (fullK sw r).length = if kx sw r = 4 ∨ ky sw r = 4 then 18 else 26 := by
  obtain ⟨a1, a2, a3⟩ := hr.x sw
  unfold fullK preK
  simp only [List.length_append]
  have hk : ∀ c, c ≤ 4 → (keyB c).length = if c = 4 then 1 else 9 := fun c hc => by
    unfold keyB
    split <;> rfl
  rw [hk _ a1, hk _ a2]
  have : (idB r.id).length = 8 := rfl
  rw [this]
  by_cases h1 : kx sw r = 4
  · have h2 : ¬ ky sw r = 4 := fun e => a3 ⟨h1, e⟩
    rw [if_pos h1, if_neg h2, if_pos (.inl h1)]
  · rw [if_neg h1]
    by_cases h2 : ky sw r = 4
    · rw [if_pos h2, if_pos (.inr h2)]
    · rw [if_neg h2, if_neg (fun e => by rcases e with e | e; exact h1 e; exact h2 e)]
theorem lt_app : ∀ {b s : List UInt8}, s ≠ [] → Lt b (b ++ s)
  | [], s, h => Lt.nil h
  | x :: b, s, h => by
    show (if x = x then lexC b (b ++ s) else _) = -1
    rw [if_pos rfl]; exact lt_app h
theorem lt_pre : ∀ {b e s : List UInt8}, Lt b e → e = b ++ s ∨ Lt e (b ++ s) → ∃ t, e = b ++ t
  | [], e, _, _, _ => ⟨e, rfl⟩
  | x :: b, [], _, h, _ => by
    have h' : (1 : Int) = -1 := h
    cases h'
  | x :: b, y :: e, s, h, h2 => by
    rcases h2 with h2 | h2
    · exact ⟨s, h2⟩
    have h' : (if x = y then lexC b e else if x < y then (-1 : Int) else 1) = -1 := h
    have h2' : (if y = x then lexC e (b ++ s) else if y < x then (-1 : Int) else 1) = -1 := h2
    by_cases hxy : x = y
    · subst hxy
      rw [if_pos rfl] at h' h2'
      obtain ⟨t, ht⟩ := lt_pre (s := s) h' (.inr h2')
      exact ⟨t, by rw [ht]; rfl⟩
    · rw [if_neg hxy] at h'
      rw [if_neg (Ne.symm hxy)] at h2'
      split at h'
      · rename_i h3
        split at h2'
        · rename_i h4
          rw [UInt8.lt_iff_toNat_lt] at h3 h4
          omega
        · cases h2'
      · cases h'
/- the abstract machine's lists -/
theorem appV_eq : ∀ a b : List AVal, appV a b = a ++ b
  | [], _ => rfl
  | x :: a, b => by show x :: appV a b = _; rw [appV_eq a b]; rfl
theorem bytesA_app (a b : List UInt8) : bytesA (a ++ b) = bytesA a ++ bytesA b := List.map_append
theorem bytesV_app (a b : List UInt8) : bytesV (a ++ b) = bytesV a ++ bytesV b := List.map_append
theorem keyA_eq {c : Nat} (h : c ≤ 4) : keyA c = bytesA (keyB c) := by
  match c, h with
  | 0, _ => rfl
  | 1, _ => rfl
  | 2, _ => rfl
  | 3, _ => rfl
  | 4, _ => rfl
theorem anyV_rel {T : Tok} {φ : Phi} : ∀ {n : Nat} {vs : List Value}, vs.length = n → (∀ v, v ∈ vs → v.oneCell' = true) → @VsRel T φ (anyV n) vs
  | 0, [], _, _ => @VsRel.nil T φ
  | n + 1, v :: vs, hl, h => @VsRel.cons T φ _ _ _ _ (@VRel.any T φ v (h v (List.mem_cons_self ..))) (anyV_rel (by simpa using hl) fun u hu => h u (List.mem_cons_of_mem _ hu))
  | 0, _ :: _, hl, _ => by simp at hl
  | n + 1, [], hl, _ => by simp at hl
theorem vsrel_app {T : Tok} {φ : Phi} : ∀ {l l' : List AVal} {vs vs' : List Value}, @VsRel T φ l vs → @VsRel T φ l' vs' → @VsRel T φ (l ++ l') (vs ++ vs')
  | [], _, _, _, h, h' => by cases h; exact h'
  | a :: l, _, _, _, h, h' => by
    cases h with
    | cons h1 h2 => exact @VsRel.cons T φ _ _ _ _ h1 (vsrel_app h2 h')
end Go.AM
