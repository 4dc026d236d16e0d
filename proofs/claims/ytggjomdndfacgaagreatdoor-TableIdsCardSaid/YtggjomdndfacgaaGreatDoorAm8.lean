/- The program: its functions without a body, slices.Insert, what the closed runs are. -/
import Derived.Test.YtggjomdndfacgaaGreatDoorAm6
import Derived.Test.YtggjomdndfacgaaGreatDoorProg
import Derived.KernelRfl
import Derived.Test.YtggjomdndfacgaaGreatDoorAm7
set_option linter.unusedSectionVars false
set_option linter.unusedVariables false
set_option linter.unusedSimpArgs false
namespace Go.AM
open Go.Proofs

noncomputable def E1 : Ext := fun f => match f with
  | 68 => some .valueOf | 69 => some .valType | 70 => some .isNil | 72 => some .typeOf | 121 => some .valElem | 122 => some .valSet | 224 => some .compare | 289 => some .kind | 300 => some .assignable | 301 => some .comparable | 302 => some .rtElem | 303 => some .implements
  | _ => none
noncomputable def b00 : Blk := .cells true [.iface 219 (.agg [.ptr 2 27])]
noncomputable abbrev TZ : Program := Tryz.prog
theorem tz_mixed : TZ.follows .mixedOrders = true := by kernel_rfl
theorem tz_gprog : gProg TZ = true := by kernel_rfl
theorem tz_glob : TZ.globals.size = 2 := by kernel_rfl
theorem extHere {f : FuncId} {e : EX} (he : e ≠ .indexByte) (h : extIs TZ f = true) (h2 : (TZ.funcs[f]?).bind Extern.find = some (exRow e)) : ExtHere TZ f e := by
  unfold extIs at h
  cases hf : TZ.funcs[f]? with
  | none => rw [hf] at h; cases h
  | some fn =>
    rw [hf] at h h2
    simp only [Bool.and_eq_true, Bool.not_eq_true'] at h
    exact ⟨he, fn, hf, h.1.1, h.1.2, Option.isNone_iff_eq_none.1 h.2, h2⟩
theorem tz_ext : ∀ f e, E1 f = some e → ExtHere TZ f e := by
  intro f e h
  unfold E1 at h
  split at h
  · cases h; exact extHere (by intro h; cases h) (by kernel_rfl) (by kernel_rfl)
  · cases h; exact extHere (by intro h; cases h) (by kernel_rfl) (by kernel_rfl)
  · cases h; exact extHere (by intro h; cases h) (by kernel_rfl) (by kernel_rfl)
  · cases h; exact extHere (by intro h; cases h) (by kernel_rfl) (by kernel_rfl)
  · cases h; exact extHere (by intro h; cases h) (by kernel_rfl) (by kernel_rfl)
  · cases h; exact extHere (by intro h; cases h) (by kernel_rfl) (by kernel_rfl)
  · cases h; exact extHere (by intro h; cases h) (by kernel_rfl) (by kernel_rfl)
  · cases h; exact extHere (by intro h; cases h) (by kernel_rfl) (by kernel_rfl)
  · cases h; exact extHere (by intro h; cases h) (by kernel_rfl) (by kernel_rfl)
  · cases h; exact extHere (by intro h; cases h) (by kernel_rfl) (by kernel_rfl)
  · cases h; exact extHere (by intro h; cases h) (by kernel_rfl) (by kernel_rfl)
  · cases h; exact extHere (by intro h; cases h) (by kernel_rfl) (by kernel_rfl)
  · cases h
end Go.AM

namespace Go.AM
open Go.Proofs
/- ### parts of a code -/
def sl : Code → Code
  | .seq x _ => x
  | c => c
def sr : Code → Code
  | .seq _ y => y
  | c => c
def opsOf : Code → Array Oper
  | .region _ o _ => o
  | _ => #[]
noncomputable def bodyOf (P : Program) (f : Nat) : Code := ((P.funcs[f]?).bind (·.body)).getD .skip
noncomputable def B217 : Code := bodyOf TZ 217
noncomputable def K0 : KH := callX TZ E1 (fun _ => none) 60
theorem k0_ok {T : Tok} : @KSound T TZ K0 := callX_ok tz_mixed tz_gprog tz_ext (fun f g h => by cases h) 60
theorem k0_draw {T : Tok} : @DrawOk T TZ K0 := draw_ok tz_mixed k0_ok
/- no room -/
theorem ins_a : (match K0 217 (insArgs 2 1 true) (insMem 2 []) with | .ok v m => insChk 2 v m | .fail _ => false) = true := by kernel_rfl
noncomputable def P217 : List Code := [sl B217, sl (sr B217), sl (sr (sr B217)), sl (sr (sr (sr B217))), sl (sr (sr (sr (sr B217)))), sl (sr (sr (sr (sr (sr B217))))), sl (sr (sr (sr (sr (sr (sr B217)))))), sl (sr (sr (sr (sr (sr (sr (sr B217)))))))]
noncomputable def R217 : Code := sr (sr (sr (sr (sr (sr (sr (sr B217)))))))
noncomputable def O217 : Array Oper := opsOf (sl (sl R217))
theorem b217 : B217 = seqsC P217 (.seq (.seq (.region 14 O217 false) (sr (sl R217))) (sr R217)) := by kernel_rfl
theorem ins_b1 (k : Nat) : pieceRun TZ 95 K0 P217 ⟨true, fun _ => false, false⟩ [(0, rowS 2 k 1), (1, .int .i64 (.ofNat 0)), (2, argV 2)] [0, 1, 2, 7, 8] (insM 2) = .ok (.tuple (vb1 2 k)) (insM 2) := by kernel_rfl
theorem ins_b2 (k : Nat) : opsRun TZ 95 K0 O217 (O217.toList.take 6) ([0, 1, 2, 7, 8].zip (vb1 2 k)) [61, 66, 0, 1, 2, 7, 8] (insM 2) = .ok (.tuple (vb2 2 k)) (insM 2) := by kernel_rfl
noncomputable def o217_6 : Oper := (O217[6]?).getD default
noncomputable def o217_7 : Oper := (O217[7]?).getD default
theorem ins_b3 (k : Nat) : ∀ b : Bool, opsRun TZ 95 K0 O217 [o217_7] ([67, 61, 66, 0, 1, 2, 7, 8].zip (.bool b :: vb2 2 k)) [68, 61, 66, 0, 1, 2, 7, 8] (insM 2) = .ok (.tuple (vb3 2 k b)) (insM 2)
  | true => by kernel_rfl
  | false => by kernel_rfl
theorem ins_b4 (k : Nat) : ∀ b : Bool, insFin 2 (pieceRun TZ 95 K0 [sr (sl R217), sr R217] ⟨false, fun _ => false, true⟩ ([68, 61, 66, 0, 1, 2, 7, 8].zip (vb3 2 k b)) [6] (insM 2)) = true
  | true => by kernel_rfl
  | false => by kernel_rfl
noncomputable def fn217 : Func := (TZ.funcs[217]?).getD default
theorem fn217_is : TZ.funcs[217]? = some fn217 := by kernel_rfl
theorem fn217_name : (fn217.name == "runtime.NumGoroutine") = false := by kernel_rfl
theorem fn217_body : fn217.body = some B217 := by kernel_rfl
theorem fn217_nt : fn217.ntmps = 95 := by kernel_rfl
theorem fn217_res : fn217.results.toList = [.tmp 6] := by kernel_rfl
theorem b217_g1 : P217.all (gCode TZ.globals.size) = true := by kernel_rfl
theorem b217_g2 : gCode TZ.globals.size (sr (sl R217)) = true := by kernel_rfl
theorem b217_g3 : gCode TZ.globals.size (sr R217) = true := by kernel_rfl
theorem o217_g : O217.toList.all (gOper TZ.globals.size) = true := by kernel_rfl
theorem o217_size : O217.size = 8 := by kernel_rfl
theorem o217_at6 : O217[6]? = some o217_6 := by kernel_rfl
theorem o217_at7 : O217[7]? = some o217_7 := by kernel_rfl
theorem o217_g6 : o217_6.guard = none := by kernel_rfl
theorem o217_d6 : o217_6.dst = some 67 := by kernel_rfl
theorem o217_c6 : callOf o217_6.op = some (.value (.func 243), [.tmp 61, .tmp 66]) := by kernel_rfl
theorem f243 : extIs TZ 243 = true := by kernel_rfl
theorem f243' : (TZ.funcs[243]?).bind Extern.find = some (Extern.SlicesOverlaps.overlaps #[237, 237] #[4]) := by kernel_rfl
theorem t237 : (elemT (TZ.underlying 237)).map (fun e => hasT TZ e) = some true := by kernel_rfl
theorem ins_runs : InsRuns TZ 217 2 := by
  intro T φ w cargs c ex sp hcase hr hv
  rcases hcase with ⟨rfl, rfl, rfl⟩ | ⟨⟨k, rfl⟩, rfl, rfl⟩
  · have h := ins_a
    generalize hq : K0 217 (insArgs 2 1 true) (insMem 2 []) = q at h
    cases q with
    | fail c => cases h
    | ok v m => exact (@k0_ok T 217 _ _ v m hq φ w cargs hr hv).mono fun cv w' ⟨φ', h1, h2⟩ => ⟨φ', v, m, h1, h2, h⟩
  · exact ins_room (P := TZ) (T := T) (K := K0) (G := 2) (f := 217) (g := 243) (fn := fn217) (B := B217) (X := sr (sl R217)) (Y := sr R217) (Ps := P217) (ops := O217) (id := 14) (o6 := o217_6) (o7 := o217_7) (k := k) k0_ok k0_draw (by decide) (by decide) fn217_is (ne_of_beq_false fn217_name) fn217_body fn217_nt fn217_res b217 b217_g1 ⟨b217_g2, b217_g3⟩ o217_g o217_size o217_at6 o217_at7
      ⟨o217_g6, o217_d6, o217_c6⟩ (fun {w ab ao ac bb bo bc} hne {ca cb ea eb fa fb} hA hB hf => call_overlaps f243 f243' t237 hne hA hB hf) (ins_b1 k) (ins_b2 k) (ins_b3 k) (ins_b4 k) hr hv
end Go.AM

namespace Go.AM
open Go.Proofs
/- ### the closed runs of the law -/
noncomputable def X1 : Stand := fun f => match f with
  | 217 => some ⟨insX 2⟩
  | _ => none
noncomputable def X2 : Stand := fun f => match f with
  | 53 => some ⟨idxX 2 0 b00⟩
  | 217 => some ⟨insX 2⟩
  | _ => none
noncomputable def K1 : KH := callX TZ E1 X1 100
noncomputable def K2 : KH := callX TZ E1 X2 100
noncomputable def B4 : Code := bodyOf TZ 4
/-- from made() on -/
noncomputable def B4m : Code := sr (sr (sr B4))
def loopOf : Code → Code
  | .block _ (.loop b) => b
  | c => c
def blkOf : Code → Code
  | .block _ b => b
  | c => c
noncomputable def B4l : Code := loopOf (sr (sl (sr (sr (sr B4m)))))
noncomputable def B4b : Code := blkOf (sl (sr B4l))
noncomputable def SW : Code := sr (sl B4b)
noncomputable def RST : Code := sr B4b
def rr (n c : Nat) : Prop := roundRun TZ K2 2 0 b00 SW RST n c = true
def ii (κ : Bool) (n : Nat) : Prop := idxRun K1 2 0 b00 κ n = true
end Go.AM
