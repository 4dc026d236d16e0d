/- The program: its functions without a body, slices.Insert, what the closed runs of the tree are. -/
import Derived.Test.YtggjomdndfacgaaGreatDoorUm6
import Derived.Test.YtggjomdndfacgaaGreatDoorProg
import Derived.KernelRfl
import Derived.Test.YtggjomdndfacgaaGreatDoorUt1
import Derived.Test.YtggjomdndfacgaaGreatDoorUm7
set_option linter.unusedSectionVars false
set_option linter.unusedVariables false
set_option linter.unusedSimpArgs false
namespace Go.AM
open Go.Proofs

noncomputable def E1 : Ext := fun f => match f with
  | 68 => some .valueOf | 69 => some .valType | 70 => some .isNil | 72 => some .typeOf | 121 => some .valElem | 122 => some .valSet | 224 => some .compare | 289 => some .kind | 300 => some .assignable | 301 => some .comparable | 302 => some .rtElem | 303 => some .implements
  | _ => none
noncomputable def b00 : Blk := .cells true [.iface 219 (.agg [.ptr 2 27])]
noncomputable abbrev TZ : Program := Tryz.prog
theorem tz_mixed : TZ.follows .mixedOrders = true := by kernel_rfl
theorem tz_gprog : gProg TZ = true := by kernel_rfl
theorem tz_glob : TZ.globals.size = 2 := by kernel_rfl
theorem extHere {f : FuncId} {e : EX} (he : e ≠ .indexByte) (h : extIs TZ f = true) (h2 : (TZ.funcs[f]?).bind Extern.find = some (exRow e)) : ExtHere TZ f e := by
  unfold extIs at h
  cases hf : TZ.funcs[f]? with
  | none => rw [hf] at h; cases h
  | some fn =>
    rw [hf] at h h2
    simp only [Bool.and_eq_true, Bool.not_eq_true'] at h
    exact ⟨he, fn, hf, h.1.1, h.1.2, Option.isNone_iff_eq_none.1 h.2, h2⟩
theorem tz_ext : ∀ f e, E1 f = some e → ExtHere TZ f e := by
  intro f e h
  unfold E1 at h
  split at h
  · cases h; exact extHere (by intro h; cases h) (by kernel_rfl) (by kernel_rfl)
  · cases h; exact extHere (by intro h; cases h) (by kernel_rfl) (by kernel_rfl)
  · cases h; exact extHere (by intro h; cases h) (by kernel_rfl) (by kernel_rfl)
  · cases h; exact extHere (by intro h; cases h) (by kernel_rfl) (by kernel_rfl)
  · cases h; exact extHere (by intro h; cases h) (by kernel_rfl) (by kernel_rfl)
  · cases h; exact extHere (by intro h; cases h) (by kernel_rfl) (by kernel_rfl)
  · cases h; exact extHere (by intro h; cases h) (by kernel_rfl) (by kernel_rfl)
  · cases h; exact extHere (by intro h; cases h) (by kernel_rfl) (by kernel_rfl)
  · cases h; exact extHere (by intro h; cases h) (by kernel_rfl) (by kernel_rfl)
  · cases h; exact extHere (by intro h; cases h) (by kernel_rfl) (by kernel_rfl)
  · cases h; exact extHere (by intro h; cases h) (by kernel_rfl) (by kernel_rfl)
  · cases h; exact extHere (by intro h; cases h) (by kernel_rfl) (by kernel_rfl)
  · cases h
end Go.AM

namespace Go.AM
open Go.Proofs
/- ### parts of a code -/
def sl : Code → Code
  | .seq x _ => x
  | c => c
def sr : Code → Code
  | .seq _ y => y
  | c => c
def opsOf : Code → Array Oper
  | .region _ o _ => o
  | _ => #[]
noncomputable def bodyOf (P : Program) (f : Nat) : Code := ((P.funcs[f]?).bind (·.body)).getD .skip
noncomputable def B217 : Code := bodyOf TZ 217
noncomputable def K0 : KH := callX TZ E1 (fun _ => none) 60
theorem k0_ok {T : Tok} : @KSound T TZ K0 := callX_ok tz_mixed tz_gprog tz_ext (fun f g h => by cases h) 60
theorem k0_draw {T : Tok} : @DrawOk T TZ K0 := draw_ok tz_mixed k0_ok
/- no room -/
theorem ins_a : (match K0 217 (insArgs 2 1 true) (insMem 2 []) with | .ok v m => insChk 2 v m | .fail _ => false) = true := by kernel_rfl
noncomputable def P217 : List Code := [sl B217, sl (sr B217), sl (sr (sr B217)), sl (sr (sr (sr B217))), sl (sr (sr (sr (sr B217)))), sl (sr (sr (sr (sr (sr B217))))), sl (sr (sr (sr (sr (sr (sr B217)))))), sl (sr (sr (sr (sr (sr (sr (sr B217)))))))]
noncomputable def R217 : Code := sr (sr (sr (sr (sr (sr (sr (sr B217)))))))
noncomputable def O217 : Array Oper := opsOf (sl (sl R217))
theorem b217 : B217 = seqsC P217 (.seq (.seq (.region 14 O217 false) (sr (sl R217))) (sr R217)) := by kernel_rfl
theorem ins_b1 (k : Nat) : pieceRun TZ 95 K0 P217 ⟨true, fun _ => false, false⟩ [(0, rowS 2 k 1), (1, .int .i64 (.ofNat 0)), (2, argV 2)] [0, 1, 2, 7, 8] (insM 2) = .ok (.tuple (vb1 2 k)) (insM 2) := by kernel_rfl
theorem ins_b2 (k : Nat) : opsRun TZ 95 K0 O217 (O217.toList.take 6) ([0, 1, 2, 7, 8].zip (vb1 2 k)) [61, 66, 0, 1, 2, 7, 8] (insM 2) = .ok (.tuple (vb2 2 k)) (insM 2) := by kernel_rfl
noncomputable def o217_6 : Oper := (O217[6]?).getD default
noncomputable def o217_7 : Oper := (O217[7]?).getD default
theorem ins_b3 (k : Nat) : ∀ b : Bool, opsRun TZ 95 K0 O217 [o217_7] ([67, 61, 66, 0, 1, 2, 7, 8].zip (.bool b :: vb2 2 k)) [68, 61, 66, 0, 1, 2, 7, 8] (insM 2) = .ok (.tuple (vb3 2 k b)) (insM 2)
  | true => by kernel_rfl
  | false => by kernel_rfl
theorem ins_b4 (k : Nat) : ∀ b : Bool, insFin 2 (pieceRun TZ 95 K0 [sr (sl R217), sr R217] ⟨false, fun _ => false, true⟩ ([68, 61, 66, 0, 1, 2, 7, 8].zip (vb3 2 k b)) [6] (insM 2)) = true
  | true => by kernel_rfl
  | false => by kernel_rfl
noncomputable def fn217 : Func := (TZ.funcs[217]?).getD default
theorem fn217_is : TZ.funcs[217]? = some fn217 := by kernel_rfl
theorem fn217_name : (fn217.name == "runtime.NumGoroutine") = false := by kernel_rfl
theorem fn217_body : fn217.body = some B217 := by kernel_rfl
theorem fn217_nt : fn217.ntmps = 95 := by kernel_rfl
theorem fn217_res : fn217.results.toList = [.tmp 6] := by kernel_rfl
theorem b217_g1 : P217.all (gCode TZ.globals.size) = true := by kernel_rfl
theorem b217_g2 : gCode TZ.globals.size (sr (sl R217)) = true := by kernel_rfl
theorem b217_g3 : gCode TZ.globals.size (sr R217) = true := by kernel_rfl
theorem o217_g : O217.toList.all (gOper TZ.globals.size) = true := by kernel_rfl
theorem o217_size : O217.size = 8 := by kernel_rfl
theorem o217_at6 : O217[6]? = some o217_6 := by kernel_rfl
theorem o217_at7 : O217[7]? = some o217_7 := by kernel_rfl
theorem o217_g6 : o217_6.guard = none := by kernel_rfl
theorem o217_d6 : o217_6.dst = some 67 := by kernel_rfl
theorem o217_c6 : callOf o217_6.op = some (.value (.func 243), [.tmp 61, .tmp 66]) := by kernel_rfl
theorem f243 : extIs TZ 243 = true := by kernel_rfl
theorem f243' : (TZ.funcs[243]?).bind Extern.find = some (Extern.SlicesOverlaps.overlaps #[237, 237] #[4]) := by kernel_rfl
theorem t237 : (elemT (TZ.underlying 237)).map (fun e => hasT TZ e) = some true := by kernel_rfl
theorem ins_runs : InsRuns TZ 217 2 := by
  intro T φ w cargs c ex sp hcase hr hv
  rcases hcase with ⟨rfl, rfl, rfl⟩ | ⟨⟨k, rfl⟩, rfl, rfl⟩
  · have h := ins_a
    generalize hq : K0 217 (insArgs 2 1 true) (insMem 2 []) = q at h
    cases q with
    | fail c => cases h
    | ok v m => exact (@k0_ok T 217 _ _ v m hq φ w cargs hr hv).mono fun cv w' ⟨φ', h1, h2⟩ => ⟨φ', v, m, h1, h2, h⟩
  · exact ins_room (P := TZ) (T := T) (K := K0) (G := 2) (f := 217) (g := 243) (fn := fn217) (B := B217) (X := sr (sl R217)) (Y := sr R217) (Ps := P217) (ops := O217) (id := 14) (o6 := o217_6) (o7 := o217_7) (k := k) k0_ok k0_draw (by decide) (by decide) fn217_is (ne_of_beq_false fn217_name) fn217_body fn217_nt fn217_res b217 b217_g1 ⟨b217_g2, b217_g3⟩ o217_g o217_size o217_at6 o217_at7
      ⟨o217_g6, o217_d6, o217_c6⟩ (fun {w ab ao ac bb bo bc} hne {ca cb ea eb fa fb} hA hB hf => call_overlaps f243 f243' t237 hne hA hB hf) (ins_b1 k) (ins_b2 k) (ins_b3 k) (ins_b4 k) hr hv
end Go.AM

namespace Go.AM
open Go.Proofs
variable {P : Program}

noncomputable def edRun (K : KH) (f G n z mv q : Nat) (ints : List AVal) (sel : List Nat) (c : Nat) (sp : List AVal) : Bool :=
  match K f (edArgs G n z c true ints mv) (edMem G (n * z) (mv * z) sp) with
  | .ok v m => edChk G q z sel v m
  | .fail _ => false
theorem edRuns_of {K : KH} (hK : ∀ T : Tok, T.strong = true → @KSound T P K) {f G n z mv q : Nat} {ints : List AVal} {sel : List Nat} (h1 : edRun K f G n z mv q ints sel n [] = true) (h2 : ∀ k, edRun K f G n z mv q ints sel (Nat.add k (Nat.succ n)) (anyL z) = true) :
    EdRuns P f G n z mv q ints sel := by
  intro T φ w cargs c ex sp hst hcase hr hv
  have main : ∀ c sp, edRun K f G n z mv q ints sel c sp = true → @Rel T P φ (edMem G (n * z) (mv * z) sp) w → @VsRel T φ (edArgs G n z c true ints mv) cargs.toList →
      Ends P f cargs w fun cv w' => ∃ φ' v mf, @Step T P φ (edMem G (n * z) (mv * z) sp) w φ' mf w' ∧ @VRel T φ' v cv ∧ edChk G q z sel v mf = true := by
    intro c sp h hr hv
    unfold edRun at h
    generalize hq : K f (edArgs G n z c true ints mv) (edMem G (n * z) (mv * z) sp) = q at h
    cases q with
    | fail c => cases h
    | ok v m => exact (hK T hst f _ _ v m hq φ w cargs hr hv).mono fun cv w' ⟨φ', h1, h2⟩ => ⟨φ', v, m, h1, h2, h⟩
  rcases hcase with ⟨rfl, rfl, rfl⟩ | ⟨⟨k, rfl⟩, rfl, rfl⟩
  · exact main _ _ h1 hr hv
  · exact main _ _ (h2 k) hr hv
noncomputable def XO : Stand := fun f => match f with
  | 243 => some ⟨ovX⟩
  | 246 => some ⟨ovX⟩
  | _ => none
noncomputable def KO : KH := callX TZ E1 XO 60
theorem tz243 : extIs TZ 243 = true := by kernel_rfl
theorem tz243' : (TZ.funcs[243]?).bind Extern.find = some (Extern.SlicesOverlaps.overlaps #[237, 237] #[4]) := by kernel_rfl
theorem tz243t : (elemT (TZ.underlying 237)).map (fun e => hasT TZ e) = some true := by kernel_rfl
theorem tz246 : extIs TZ 246 = true := by kernel_rfl
theorem tz246' : (TZ.funcs[246]?).bind Extern.find = some (Extern.SlicesOverlaps.overlaps #[238, 238] #[4]) := by kernel_rfl
theorem tz246t : (elemT (TZ.underlying 238)).map (fun e => hasT TZ e) = some true := by kernel_rfl
theorem xo_ok {T : Tok} (hst : T.strong = true) : ∀ f g, XO f = some g → @XSound T TZ f g.run := by
  intro f g h
  unfold XO at h
  split at h
  · cases h; exact ovX_ok hst tz243 tz243' tz243t
  · cases h; exact ovX_ok hst tz246 tz246' tz246t
  · cases h
theorem ko_ok (T : Tok) (hst : T.strong = true) : @KSound T TZ KO := callX_ok tz_mixed tz_gprog tz_ext (xo_ok hst) 60
noncomputable def insRun (n i c : Nat) (sp : List AVal) : Bool := edRun KO 217 2 n 2 1 (Nat.succ n) [.int .i64 (.ofNat i)] (selIns n i) c sp
noncomputable def repRun (n i mv c : Nat) (sp : List AVal) : Bool := edRun KO 219 2 n 1 mv (Nat.pred (Nat.add n mv)) [.int .i64 (.ofNat i), .int .i64 (.ofNat (Nat.succ i))] (selRep n i mv) c sp
end Go.AM

namespace Go.AM
open Go.Proofs
noncomputable def XB (m c s s2 p : Nat) : Stand := fun f => match f with
  | 217 => some ⟨insG 2⟩
  | 219 => some ⟨repG 2⟩
  | 224 => some ⟨cmpX m c s s2 p⟩
  | _ => none
/-- E1 without the comparing of bytes, which is a stand-in's -/
noncomputable def KB (m c s s2 p : Nat) : KH := callX TZ E1 (XB m c s s2 p) 60
noncomputable def allLt (f : Nat → Bool) : Nat → Bool
  | 0 => true
  | n + 1 => cond' (allLt f n) false (f n)
theorem allLt_ok {f : Nat → Bool} : ∀ {n : Nat}, allLt f n = true → ∀ i, i < n → f i = true
  | 0, _, i, h => by omega
  | n + 1, h, i, hi => by
    have h' : cond' (allLt f n) false (f n) = true := h
    rw [cond_if] at h'
    split at h'
    · rename_i hf
      rcases Nat.lt_or_eq_of_le (Nat.le_of_lt_succ hi) with h1 | h1
      · exact allLt_ok h' i h1
      · rw [h1]; exact hf
    · cases h'
noncomputable def insRow (n c : Nat) (sp : List AVal) : Bool := allLt (fun i => insRun n i c sp) n
noncomputable def repRow (n mv c : Nat) (sp : List AVal) : Bool := allLt (fun i => repRun n i mv c sp) n
noncomputable def putLRow (s : Nat) : Bool := allLt (fun p => putLRun (KB 0 0 s 0 p) 159 2 0 .none s p) (Nat.succ s)
noncomputable def putNRow (m c s : Nat) : Bool := allLt (fun p => putNRun (KB m c s 0 p) 159 2 0 .none m c s p) (Nat.succ s)
noncomputable def nextLRow (s : Nat) : Bool := allLt (fun p => nextLRun (KB 0 0 s 0 p) 83 2 0 .none s p) (Nat.succ s)
/-- p below s, or the last leaf's end -/
noncomputable def nextNRow (m c s : Nat) : Bool := allLt (fun p => nextNRun (KB m c s 0 p) 83 2 0 .none m c s 0 p) (cond' (Nat.succ s) s (Nat.beq (Nat.succ c) m))
noncomputable def nextERow (m c s : Nat) : Bool := allLt (fun j => nextNRun (KB m c s (Nat.add 8 j) s) 83 2 0 .none m c s (Nat.add 8 j) s) 9
end Go.AM

namespace Go.AM
open Go.Proofs
/- ### the closed runs of the law -/
noncomputable def X1 : Stand := fun f => match f with
  | 217 => some ⟨insX 2⟩
  | _ => none
noncomputable def X2 : Stand := fun f => match f with
  | 53 => some ⟨idxX 2 0 b00⟩
  | 217 => some ⟨insX 2⟩
  | _ => none
noncomputable def K1 : KH := callX TZ E1 X1 100
noncomputable def K2 : KH := callX TZ E1 X2 100
noncomputable def B4 : Code := bodyOf TZ 4
/-- from made() on -/
noncomputable def B4m : Code := sr (sr (sr B4))
def loopOf : Code → Code
  | .block _ (.loop b) => b
  | c => c
def blkOf : Code → Code
  | .block _ b => b
  | c => c
noncomputable def B4l : Code := loopOf (sr (sl (sr (sr (sr B4m)))))
noncomputable def B4b : Code := blkOf (sl (sr B4l))
noncomputable def SW : Code := sr (sl B4b)
noncomputable def RST : Code := sr B4b
def rr (n c : Nat) : Prop := roundRun TZ K2 2 0 b00 SW RST n c = true
def ii (κ : Bool) (n : Nat) : Prop := idxRun K1 2 0 b00 κ n = true
end Go.AM

namespace Go.AM
open Go.Proofs

/- ### the law's code, and what it begins with -/
noncomputable def T4 : Code := sr (sr B4)
noncomputable def E4 : Code := sr (sr (sr B4m))
def thenOf : Code → Code
  | .cond _ x _ => x
  | c => c
noncomputable def O3 : Array Oper := opsOf (sl (sl T4))
noncomputable def O4 : Array Oper := opsOf (sl (thenOf (sr (sl T4))))
noncomputable def O9 : Array Oper := opsOf (sl (sl E4))
noncomputable def O32 : Array Oper := opsOf (sl (sr E4))
noncomputable def O10 : Array Oper := opsOf (sl (sl B4l))
noncomputable def O12 : Array Oper := opsOf (sl (sl B4b))
noncomputable def O11 : Array Oper := opsOf (sr (sr B4l))
theorem b4_is : B4 = lawCode (sl B4) (sl (sr B4)) 3 O3 4 O4 (sl B4m) (sl (sr B4m)) (sl (sr (sr B4m))) 9 O9 (.block 0 (.loop (lawBody 10 12 11 O10 O12 O11 SW RST))) 32 O32 := by kernel_rfl
theorem opAt {ops : Array Oper} {i d : Nat} {op : Op} (h1 : ops[i]? = some ((ops[i]?).getD default)) (h2 : ((ops[i]?).getD default).guard = none) (h3 : ((ops[i]?).getD default).dst = some d) (h4 : ((ops[i]?).getD default).op = op) : OpAt ops i d op := ⟨_, h1, h2, h3, h4⟩
theorem tz_u22 : TZ.underlying 22 = some (.slice 5) := by kernel_rfl
theorem tz_has5 : hasT TZ 5 = true := by kernel_rfl
theorem tz_sz5 : szOf TZ 5 = 1 := by kernel_rfl
theorem tz_agg5 : aggB TZ 5 = false := by kernel_rfl
theorem tz_ops : LawOps TZ O3 O10 O12 O11 :=
  ⟨22, 5, 3, 3, 3, 3, 5, 3, 3, tz_u22, fun w => by have := @run_sizeOf' tok0 TZ w 5 tz_has5; rwa [tz_sz5] at this, fun w => by have := @run_isAgg' tok0 TZ w 5 tz_has5; rwa [tz_agg5] at this,
    ⟨by kernel_rfl, opAt (by kernel_rfl) (by kernel_rfl) (by kernel_rfl) (by kernel_rfl), opAt (by kernel_rfl) (by kernel_rfl) (by kernel_rfl) (by kernel_rfl), opAt (by kernel_rfl) (by kernel_rfl) (by kernel_rfl) (by kernel_rfl)⟩,
    ⟨by kernel_rfl, opAt (by kernel_rfl) (by kernel_rfl) (by kernel_rfl) (by kernel_rfl), opAt (by kernel_rfl) (by kernel_rfl) (by kernel_rfl) (by kernel_rfl), opAt (by kernel_rfl) (by kernel_rfl) (by kernel_rfl) (by kernel_rfl), opAt (by kernel_rfl) (by kernel_rfl) (by kernel_rfl) (by kernel_rfl)⟩,
    ⟨by kernel_rfl, opAt (by kernel_rfl) (by kernel_rfl) (by kernel_rfl) (by kernel_rfl), opAt (by kernel_rfl) (by kernel_rfl) (by kernel_rfl) (by kernel_rfl), opAt (by kernel_rfl) (by kernel_rfl) (by kernel_rfl) (by kernel_rfl), opAt (by kernel_rfl) (by kernel_rfl) (by kernel_rfl) (by kernel_rfl), opAt (by kernel_rfl) (by kernel_rfl) (by kernel_rfl) (by kernel_rfl)⟩,
    ⟨by kernel_rfl, opAt (by kernel_rfl) (by kernel_rfl) (by kernel_rfl) (by kernel_rfl), opAt (by kernel_rfl) (by kernel_rfl) (by kernel_rfl) (by kernel_rfl), opAt (by kernel_rfl) (by kernel_rfl) (by kernel_rfl) (by kernel_rfl)⟩⟩
theorem tz_o4 : O4.size = 1 ∧ OpAt O4 0 2 (.assign (.const (.bool true))) := ⟨by kernel_rfl, opAt (by kernel_rfl) (by kernel_rfl) (by kernel_rfl) (by kernel_rfl)⟩
theorem tz_o9 : O9.size = 1 ∧ OpAt O9 0 5 (.assign (.const (.int .i64 0))) := ⟨by kernel_rfl, opAt (by kernel_rfl) (by kernel_rfl) (by kernel_rfl) (by kernel_rfl)⟩
theorem tz_o32 : O32.size = 1 ∧ OpAt O32 0 2 (.assign (.const (.bool true))) := ⟨by kernel_rfl, opAt (by kernel_rfl) (by kernel_rfl) (by kernel_rfl) (by kernel_rfl)⟩
theorem tz_g1 : [sl B4, sl (sr B4)].all (gCode TZ.globals.size) = true := by kernel_rfl
theorem tz_g2 : [sl B4m, sl (sr B4m), sl (sr (sr B4m))].all (gCode TZ.globals.size) = true := by kernel_rfl
theorem tz_g3 : gCode TZ.globals.size SW = true := by kernel_rfl
theorem tz_g4 : gCode TZ.globals.size RST = true := by kernel_rfl
noncomputable def fn4 : Func := (TZ.funcs[4]?).getD default
theorem fn4_is : TZ.funcs[4]? = some fn4 := by kernel_rfl
theorem fn4_body : fn4.body = some B4 := by kernel_rfl
theorem fn4_nt : fn4.ntmps = 143 := by kernel_rfl
theorem fn4_res : fn4.results.toList = [.tmp 2] := by kernel_rfl
theorem x1_ok {T : Tok} : ∀ f g, X1 f = some g → @XSound T TZ f g.run := by
  intro f g h
  unfold X1 at h
  split at h
  · cases h; exact insX_ok tz_glob (by decide) ins_runs
  · cases h
theorem k1_ok (T : Tok) : @KSound T TZ K1 := callX_ok tz_mixed tz_gprog tz_ext x1_ok 100
theorem k1_draw (T : Tok) : @DrawOk T TZ K1 := draw_ok tz_mixed (k1_ok T)
theorem x2_ok (hi : ∀ (κ : Bool) (n : Nat), n ≤ 60 → idxRun K1 2 0 b00 κ n = true) {T : Tok} : ∀ f g, X2 f = some g → @XSound T TZ f g.run := by
  intro f g h
  unfold X2 at h
  split at h
  · cases h; exact idxX_ok tz_glob k1_ok rfl hi
  · cases h; exact insX_ok tz_glob (by decide) ins_runs
  · cases h
theorem k2_ok (hi : ∀ (κ : Bool) (n : Nat), n ≤ 60 → idxRun K1 2 0 b00 κ n = true) (T : Tok) : @KSound T TZ K2 := callX_ok tz_mixed tz_gprog tz_ext (x2_ok hi) 100
theorem k2_draw (hi : ∀ (κ : Bool) (n : Nat), n ≤ 60 → idxRun K1 2 0 b00 κ n = true) (T : Tok) : @DrawOk T TZ K2 := draw_ok tz_mixed (k2_ok hi T)
def phi0 (c : Nat) : Phi := fun p => match p with
  | 0 => some (0, 0, c)
  | 1 => some (1, 0, 0)
  | 2 => some (2, 0, 0)
  | _ + 3 => none
theorem m00_get (p : Nat) (hp : p < 65536) : (m00 2 0 b00).get p = if p = 0 then b00 else .none := by
  have := mkMem_get (G := 2) (g0 := 0) (b0 := b00) (l := []) (by decide) (by decide) hp
  have h2 : ¬ (2 + 1 ≤ p ∧ p < 2 + 1 + ([] : List Blk).length) := by simp
  rw [if_neg h2] at this
  exact this
/-- the memory that the law begins with -/
theorem rel0 {T : Tok} (hT : T.hold = fun _ => none) (hS : T.strong = false) {P : Program} (hG : P.globals.size = 2) {w : World} {c : Array Value} {el : TypeId} {fz : Nat × Nat} (h0 : w.heap[0]? = some (.cells c el fz)) (hc : c[0]? = some (.iface 219 (.agg #[.pointer (some ⟨2, 27, none⟩)]))) (h2 : 2 ≤ w.heap.size) :
    @Rel T P (phi0 c.size) (m00 2 0 b00) w := by
  have hn : (m00 2 0 b00).next = 3 := rfl
  have hcs : 0 < c.size := by
    rcases Nat.eq_zero_or_pos c.size with h | h
    · rw [Array.getElem?_eq_none (by omega)] at hc; cases hc
    · exact h
  refine @Rel.mk T P _ _ _ (by rw [hn]; decide) ?_ ?_ ?_ ?_ ?_ ?_ ?_ ?_ (fun b o hb => by rw [hT] at hb; cases hb) (fun p b o s _ _ _ => by rw [hT]) (fun h => by rw [hS] at h; cases h)
  · intro p x hp
    rw [hn]
    match p, hp with
    | 0, _ => decide
    | 1, _ => decide
    | 2, _ => decide
    | p + 3, hp => cases hp
  · intro p b o s hp hne
    rw [hG] at hne
    match p, hp with
    | 0, hp => cases hp; omega
    | 1, hp => cases hp; omega
    | 2, _ => exact absurd rfl hne
    | p + 3, hp => cases hp
  · rw [hG]; rfl
  · rw [hG, m00_get 2 (by decide)]; rfl
  · intro g hg
    rw [hG] at hg
    match g, hg with
    | 0, _ => exact ⟨c.size, rfl⟩
    | 1, _ => exact ⟨0, rfl⟩
    | g + 2, hg => omega
  · intro p hp
    rw [hn] at hp
    rw [m00_get p (by omega)]
    match p, hp with
    | 0, _ =>
      rw [if_pos rfl]
      have e : (c.toList.drop 0).take [AVal.iface 219 (.agg [.ptr 2 27])].length = [.iface 219 (.agg #[.pointer (some ⟨2, 27, none⟩)])] := by
        apply List.ext_getElem?
        intro j
        match j with
        | 0 => rw [List.getElem?_take, if_pos (by decide), List.getElem?_drop, Array.getElem?_toList]; exact hc
        | j + 1 => rw [List.getElem?_take, if_neg (by show ¬ (j + 1 < 1); omega)]; rfl
      refine ⟨0, 0, c, el, fz, rfl, h0, by show 0 + 1 ≤ _; omega, ?_, fun v hv => ?_, fun h => by cases h⟩
      · rw [e]
        refine @VsRel.cons T _ _ _ _ _ (@VRel.iface T _ _ _ _ (@VRel.agg T _ _ _ (@VsRel.cons T _ _ _ _ _ (@VRel.ptr T _ 2 27 2 0 0 rfl) (@VsRel.nil T _)) (fun v hv => ?_))) (@VsRel.nil T _)
        rw [List.mem_singleton] at hv; subst hv; rfl
      · rw [List.mem_singleton] at hv; subst hv; rfl
    | p + 1, _ => rw [if_neg (by omega)]; trivial
  · intro p q b o s o' s' hp _ _ hw _ _ _
    rw [hn] at hp
    rw [m00_get p (by omega)] at hw
    split at hw
    · cases hw
    · cases hw
  · intro p hp hlt
    rw [hn] at hp
    rw [m00_get p hlt, if_neg (by omega)]
theorem tz_law (hi : ∀ (κ : Bool) (n : Nat), n ≤ 60 → idxRun K1 2 0 b00 κ n = true) (hk : knownRun TZ K1 2 0 b00 (sl B4) (sl (sr B4)) = true) (hm : madeRun TZ K1 2 0 b00 (sl B4m) (sl (sr B4m)) (sl (sr (sr B4m))) = true)
    (hrs : ∀ n c : Nat, n < 60 → c < 3 → roundRun TZ K2 2 0 b00 SW RST n c = true) {L cp : Nat} {b : Option Addr} {w : World} {c : Array Value} {el : TypeId} {fz : Nat × Nat} (h0 : w.heap[0]? = some (.cells c el fz))
    (hc : c[0]? = some (.iface 219 (.agg #[.pointer (some ⟨2, 27, none⟩)]))) (h2 : 2 ≤ w.heap.size)
    (hel : ∀ i, i < L → ∃ (ad : Addr) (z : Nat), b = some ad ∧ (ad.add i).block < w.heap.size ∧ w.cell? (ad.add i) = some (.int .u8 (z : Int))) :
    Calls TZ 4 #[.slice b L cp] w fun e w' => e = .returned (.bool true) ∧ Left' w w' :=
  law_calls (T0 := tok1 (lawVals (.slice b L cp) 0) (lawVals_cell rfl 0)) k1_ok k1_draw (k2_ok hi) (k2_draw hi) tz_glob (by decide) (by decide) rfl tz_g1 tz_g2 tz_g3 tz_g4 tz_ops tz_o4 tz_o9 tz_o32 fn4_is
    (by rw [fn4_body, ← b4_is]) fn4_nt fn4_res hk hm hrs (rel0 rfl rfl tz_glob h0 hc h2) rfl rfl hel
end Go.AM
