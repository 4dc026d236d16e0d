/- Closed runs: known(), and the two stores made. -/
import Derived.Test.YtggjomdndfacgaaGreatDoorUs1
namespace Go.AM
open Go.Proofs

/- ### the law's beginning: known(), the two stores -/
noncomputable def KS : List Code := [sl B3, sl (sr B3)]
noncomputable def MS : List Code := [sl (sr (sr (sr B3))), sl (sr (sr (sr (sr B3))))]
noncomputable def knownU : Bool := knownChk 2 0 b00 (pieceRun TZ 129 K1 KS onlyN [(0, .opq 0)] [0] (m00 2 0 b00))
noncomputable def allWr (m : Mem) : List Nat → Bool
  | [] => true
  | q :: l => cond' (allWr m l) false (match m.get q with | .cells ro _ => not ro | .none => false | _ => true)
noncomputable def disjN (l : List Nat) : List Nat → Bool
  | [] => true
  | q :: l' => cond' (disjN l l') false (freshN q l)
noncomputable def madeEnd (m : Mem) (nt nu : List Nat) : Bool :=
  and (and (absMem ⟨2, nt, [], fun _ => .bad, fun _ => .bad⟩ 0 b00 (utL true 0 []) m) (absMem ⟨2, nu, [], fun _ => .bad, fun _ => .bad⟩ 0 b00 (utL false 0 []) m)) (and (allWr m nt) (disjN nt nu))
noncomputable def madeU : Bool :=
  match pieceRun TZ 129 K1 MS onlyN [(0, .opq 0)] [0, 3, 4] (m00 2 0 b00) with
  | .ok (.tuple [x0, .ptr a oa, .ptr b ob]) m => and (and (aeqN 2 x0 (.opq 0)) (and (Nat.beq oa 0) (Nat.beq ob 0))) (madeEnd m (utNs true m a 0 []) (utNs false m b 0 []))
  | _ => false
theorem known_u : knownU = true := by kernel_rfl
theorem made_u : madeU = true := by kernel_rfl
end Go.AM
