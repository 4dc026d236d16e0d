/- The law at the program, and its card, given the closed runs. -/
import Derived.Test.YtggjomdndfacgaaGreatDoorAm8
import Derived.Test.YtggjomdndfacgaaGreatDoorAm7
import Derived.Test.YtggjomdndfacgaaGreatDoorCards
import Derived.Test.YtggjomdndfacgaaGreatDoorTie
import Derived.Carry
import Derived.OpenShut
import Derived.Deep.DeepHandedRow
import Derived.LaidHandle
import Derived.LaidLaws
import Derived.KernelRfl
set_option linter.unusedSectionVars false
set_option linter.unusedVariables false
set_option linter.unusedSimpArgs false
namespace Go.AM
open Go.Proofs

/- ### the law's code, and what it begins with -/
noncomputable def T4 : Code := sr (sr B4)
noncomputable def E4 : Code := sr (sr (sr B4m))
def thenOf : Code → Code
  | .cond _ x _ => x
  | c => c
noncomputable def O3 : Array Oper := opsOf (sl (sl T4))
noncomputable def O4 : Array Oper := opsOf (sl (thenOf (sr (sl T4))))
noncomputable def O9 : Array Oper := opsOf (sl (sl E4))
noncomputable def O32 : Array Oper := opsOf (sl (sr E4))
noncomputable def O10 : Array Oper := opsOf (sl (sl B4l))
noncomputable def O12 : Array Oper := opsOf (sl (sl B4b))
noncomputable def O11 : Array Oper := opsOf (sr (sr B4l))
theorem b4_is : B4 = lawCode (sl B4) (sl (sr B4)) 3 O3 4 O4 (sl B4m) (sl (sr B4m)) (sl (sr (sr B4m))) 9 O9 (.block 0 (.loop (lawBody 10 12 11 O10 O12 O11 SW RST))) 32 O32 := by kernel_rfl
theorem opAt {ops : Array Oper} {i d : Nat} {op : Op} (h1 : ops[i]? = some ((ops[i]?).getD default)) (h2 : ((ops[i]?).getD default).guard = none) (h3 : ((ops[i]?).getD default).dst = some d) (h4 : ((ops[i]?).getD default).op = op) : OpAt ops i d op := ⟨_, h1, h2, h3, h4⟩
theorem tz_u22 : TZ.underlying 22 = some (.slice 5) := by kernel_rfl
theorem tz_has5 : hasT TZ 5 = true := by kernel_rfl
theorem tz_sz5 : szOf TZ 5 = 1 := by kernel_rfl
theorem tz_agg5 : aggB TZ 5 = false := by kernel_rfl
theorem tz_ops : LawOps TZ O3 O10 O12 O11 :=
  ⟨22, 5, 3, 3, 3, 3, 5, 3, 3, tz_u22, fun w => by have := @run_sizeOf' tok0 TZ w 5 tz_has5; rwa [tz_sz5] at this, fun w => by have := @run_isAgg' tok0 TZ w 5 tz_has5; rwa [tz_agg5] at this,
    ⟨by kernel_rfl, opAt (by kernel_rfl) (by kernel_rfl) (by kernel_rfl) (by kernel_rfl), opAt (by kernel_rfl) (by kernel_rfl) (by kernel_rfl) (by kernel_rfl), opAt (by kernel_rfl) (by kernel_rfl) (by kernel_rfl) (by kernel_rfl)⟩,
    ⟨by kernel_rfl, opAt (by kernel_rfl) (by kernel_rfl) (by kernel_rfl) (by kernel_rfl), opAt (by kernel_rfl) (by kernel_rfl) (by kernel_rfl) (by kernel_rfl), opAt (by kernel_rfl) (by kernel_rfl) (by kernel_rfl) (by kernel_rfl), opAt (by kernel_rfl) (by kernel_rfl) (by kernel_rfl) (by kernel_rfl)⟩,
    ⟨by kernel_rfl, opAt (by kernel_rfl) (by kernel_rfl) (by kernel_rfl) (by kernel_rfl), opAt (by kernel_rfl) (by kernel_rfl) (by kernel_rfl) (by kernel_rfl), opAt (by kernel_rfl) (by kernel_rfl) (by kernel_rfl) (by kernel_rfl), opAt (by kernel_rfl) (by kernel_rfl) (by kernel_rfl) (by kernel_rfl), opAt (by kernel_rfl) (by kernel_rfl) (by kernel_rfl) (by kernel_rfl)⟩,
    ⟨by kernel_rfl, opAt (by kernel_rfl) (by kernel_rfl) (by kernel_rfl) (by kernel_rfl), opAt (by kernel_rfl) (by kernel_rfl) (by kernel_rfl) (by kernel_rfl), opAt (by kernel_rfl) (by kernel_rfl) (by kernel_rfl) (by kernel_rfl)⟩⟩
theorem tz_o4 : O4.size = 1 ∧ OpAt O4 0 2 (.assign (.const (.bool true))) := ⟨by kernel_rfl, opAt (by kernel_rfl) (by kernel_rfl) (by kernel_rfl) (by kernel_rfl)⟩
theorem tz_o9 : O9.size = 1 ∧ OpAt O9 0 5 (.assign (.const (.int .i64 0))) := ⟨by kernel_rfl, opAt (by kernel_rfl) (by kernel_rfl) (by kernel_rfl) (by kernel_rfl)⟩
theorem tz_o32 : O32.size = 1 ∧ OpAt O32 0 2 (.assign (.const (.bool true))) := ⟨by kernel_rfl, opAt (by kernel_rfl) (by kernel_rfl) (by kernel_rfl) (by kernel_rfl)⟩
theorem tz_g1 : [sl B4, sl (sr B4)].all (gCode TZ.globals.size) = true := by kernel_rfl
theorem tz_g2 : [sl B4m, sl (sr B4m), sl (sr (sr B4m))].all (gCode TZ.globals.size) = true := by kernel_rfl
theorem tz_g3 : gCode TZ.globals.size SW = true := by kernel_rfl
theorem tz_g4 : gCode TZ.globals.size RST = true := by kernel_rfl
noncomputable def fn4 : Func := (TZ.funcs[4]?).getD default
theorem fn4_is : TZ.funcs[4]? = some fn4 := by kernel_rfl
theorem fn4_body : fn4.body = some B4 := by kernel_rfl
theorem fn4_nt : fn4.ntmps = 143 := by kernel_rfl
theorem fn4_res : fn4.results.toList = [.tmp 2] := by kernel_rfl
theorem x1_ok {T : Tok} : ∀ f g, X1 f = some g → @XSound T TZ f g.run := by
  intro f g h
  unfold X1 at h
  split at h
  · cases h; exact insX_ok tz_glob (by decide) ins_runs
  · cases h
theorem k1_ok (T : Tok) : @KSound T TZ K1 := callX_ok tz_mixed tz_gprog tz_ext x1_ok 100
theorem k1_draw (T : Tok) : @DrawOk T TZ K1 := draw_ok tz_mixed (k1_ok T)
theorem x2_ok (hi : ∀ (κ : Bool) (n : Nat), n ≤ 60 → idxRun K1 2 0 b00 κ n = true) {T : Tok} : ∀ f g, X2 f = some g → @XSound T TZ f g.run := by
  intro f g h
  unfold X2 at h
  split at h
  · cases h; exact idxX_ok tz_glob k1_ok rfl hi
  · cases h; exact insX_ok tz_glob (by decide) ins_runs
  · cases h
theorem k2_ok (hi : ∀ (κ : Bool) (n : Nat), n ≤ 60 → idxRun K1 2 0 b00 κ n = true) (T : Tok) : @KSound T TZ K2 := callX_ok tz_mixed tz_gprog tz_ext (x2_ok hi) 100
theorem k2_draw (hi : ∀ (κ : Bool) (n : Nat), n ≤ 60 → idxRun K1 2 0 b00 κ n = true) (T : Tok) : @DrawOk T TZ K2 := draw_ok tz_mixed (k2_ok hi T)
def phi0 (c : Nat) : Phi := fun p => match p with
  | 0 => some (0, 0, c)
  | 1 => some (1, 0, 0)
  | 2 => some (2, 0, 0)
  | _ + 3 => none
theorem m00_get (p : Nat) (hp : p < 65536) : (m00 2 0 b00).get p = if p = 0 then b00 else .none := by
  have := mkMem_get (G := 2) (g0 := 0) (b0 := b00) (l := []) (by decide) (by decide) hp
  have h2 : ¬ (2 + 1 ≤ p ∧ p < 2 + 1 + ([] : List Blk).length) := by simp
  rw [if_neg h2] at this
  exact this
/-- the memory that the law begins with -/
theorem rel0 {T : Tok} {P : Program} (hG : P.globals.size = 2) {w : World} {c : Array Value} {el : TypeId} {fz : Nat × Nat} (h0 : w.heap[0]? = some (.cells c el fz)) (hc : c[0]? = some (.iface 219 (.agg #[.pointer (some ⟨2, 27, none⟩)]))) (h2 : 2 ≤ w.heap.size) :
    @Rel T P (phi0 c.size) (m00 2 0 b00) w := by
  have hn : (m00 2 0 b00).next = 3 := rfl
  have hcs : 0 < c.size := by
    rcases Nat.eq_zero_or_pos c.size with h | h
    · rw [Array.getElem?_eq_none (by omega)] at hc; cases hc
    · exact h
  refine @Rel.mk T P _ _ _ (by rw [hn]; decide) ?_ ?_ ?_ ?_ ?_ ?_ ?_ ?_
  · intro p x hp
    rw [hn]
    match p, hp with
    | 0, _ => decide
    | 1, _ => decide
    | 2, _ => decide
    | p + 3, hp => cases hp
  · intro p b o s hp hne
    rw [hG] at hne
    match p, hp with
    | 0, hp => cases hp; omega
    | 1, hp => cases hp; omega
    | 2, _ => exact absurd rfl hne
    | p + 3, hp => cases hp
  · rw [hG]; rfl
  · rw [hG, m00_get 2 (by decide)]; rfl
  · intro g hg
    rw [hG] at hg
    match g, hg with
    | 0, _ => exact ⟨c.size, rfl⟩
    | 1, _ => exact ⟨0, rfl⟩
    | g + 2, hg => omega
  · intro p hp
    rw [hn] at hp
    rw [m00_get p (by omega)]
    match p, hp with
    | 0, _ =>
      rw [if_pos rfl]
      have e : (c.toList.drop 0).take [AVal.iface 219 (.agg [.ptr 2 27])].length = [.iface 219 (.agg #[.pointer (some ⟨2, 27, none⟩)])] := by
        apply List.ext_getElem?
        intro j
        match j with
        | 0 => rw [List.getElem?_take, if_pos (by decide), List.getElem?_drop, Array.getElem?_toList]; exact hc
        | j + 1 => rw [List.getElem?_take, if_neg (by show ¬ (j + 1 < 1); omega)]; rfl
      refine ⟨0, 0, c, el, fz, rfl, h0, by show 0 + 1 ≤ _; omega, ?_, fun v hv => ?_, fun h => by cases h⟩
      · rw [e]
        refine @VsRel.cons T _ _ _ _ _ (@VRel.iface T _ _ _ _ (@VRel.agg T _ _ _ (@VsRel.cons T _ _ _ _ _ (@VRel.ptr T _ 2 27 2 0 0 rfl) (@VsRel.nil T _)) (fun v hv => ?_))) (@VsRel.nil T _)
        rw [List.mem_singleton] at hv; subst hv; rfl
      · rw [List.mem_singleton] at hv; subst hv; rfl
    | p + 1, _ => rw [if_neg (by omega)]; trivial
  · intro p q b o s o' s' hp _ _ hw _ _ _
    rw [hn] at hp
    rw [m00_get p (by omega)] at hw
    split at hw
    · cases hw
    · cases hw
  · intro p hp hlt
    rw [hn] at hp
    rw [m00_get p hlt, if_neg (by omega)]
theorem tz_law (hi : ∀ (κ : Bool) (n : Nat), n ≤ 60 → idxRun K1 2 0 b00 κ n = true) (hk : knownRun TZ K1 2 0 b00 (sl B4) (sl (sr B4)) = true) (hm : madeRun TZ K1 2 0 b00 (sl B4m) (sl (sr B4m)) (sl (sr (sr B4m))) = true)
    (hrs : ∀ n c : Nat, n < 60 → c < 3 → roundRun TZ K2 2 0 b00 SW RST n c = true) {L cp : Nat} {b : Option Addr} {w : World} {c : Array Value} {el : TypeId} {fz : Nat × Nat} (h0 : w.heap[0]? = some (.cells c el fz))
    (hc : c[0]? = some (.iface 219 (.agg #[.pointer (some ⟨2, 27, none⟩)]))) (h2 : 2 ≤ w.heap.size)
    (hel : ∀ i, i < L → ∃ (ad : Addr) (z : Nat), b = some ad ∧ (ad.add i).block < w.heap.size ∧ w.cell? (ad.add i) = some (.int .u8 (z : Int))) :
    Calls TZ 4 #[.slice b L cp] w fun e w' => e = .returned (.bool true) ∧ Left' w w' :=
  law_calls (T0 := tok1 (lawVals (.slice b L cp) 0) (lawVals_cell rfl 0)) k1_ok k1_draw (k2_ok hi) (k2_draw hi) tz_glob (by decide) (by decide) rfl tz_g1 tz_g2 tz_g3 tz_g4 tz_ops tz_o4 tz_o9 tz_o32 fn4_is
    (by rw [fn4_body, ← b4_is]) fn4_nt fn4_res hk hm hrs (rel0 tz_glob h0 hc h2) rfl hel
end Go.AM

namespace Go.Proofs.YtggjomdndfacgaaGreatDoor.tableIds
open Go.ChangeShapes Go.WideShapes Go.RowKit

theorem own : ownKnob Tryz.prog.godebug = none := by kernel_rfl
theorem et : Tryz.prog.globalNamed "errors.errorType" = some 0 := by kernel_rfl
theorem rt : (Tryz.prog.cutTypes.find? (·.1 == "internal/reflectlite.rtype")).map (·.2) = some 219 := by kernel_rfl
theorem oneRow : ((List.range Tryz.prog.types.size).filter fun t => Tryz.prog.rowNamed t [101, 114, 114, 111, 114]) = [27] := by kernel_rfl
theorem handle27 : typeHandle Tryz.prog 27 = .pointer (some ⟨2, 27, none⟩) := by kernel_rfl
theorem cells5 : Tryz.prog.cellsOf 5 = 1 := by kernel_rfl
theorem laidOut : laidOutB Tryz.prog = true := by kernel_rfl
theorem readable : Tryz.prog.readableRec 22 = true := by kernel_rfl
theorem inTable : decide (22 < Tryz.prog.types.size) = true := by kernel_rfl
theorem globals2 : Tryz.prog.globals.size = 2 := by kernel_rfl
theorem row0 : (((begin Tryz.prog (fun _ _ => 0) default).world.heap[0]?).bind Obj.row?).isSome = true := by kernel_rfl
theorem row1 : (((begin Tryz.prog (fun _ _ => 0) default).world.heap[1]?).bind Obj.row?).isSome = true := by kernel_rfl

/-- what the row's list gives: the variable's one cell -/
theorem handle_of_laid {W : World} (h : laidMetH Tryz.prog Rows.tableIdsRow.laid W) : W.cell? ⟨0, 0, none⟩ = some (.iface 219 (.agg #[.pointer (some ⟨2, 27, none⟩)])) := by
  have h' : laidMet Tryz.prog [] W ∧ handlesMet Tryz.prog Rows.tableIdsRow.laid W := h
  obtain ⟨name, u, ty, e1, e2, e3, e4, e5⟩ := h'.2 _ (List.mem_singleton.2 rfl)
  have en : name = [101, 114, 114, 111, 114] := (Option.some.inj e1).symm
  subst en
  obtain rfl := Option.some.inj (rt.symm.trans e2)
  have hm : ty ∈ (List.range Tryz.prog.types.size).filter fun t => Tryz.prog.rowNamed t [101, 114, 114, 111, 114] := List.mem_filter.2 ⟨List.mem_range.2 e3, e4⟩
  rw [oneRow] at hm
  obtain rfl := List.mem_singleton.1 hm
  rw [handle27] at e5
  simpa using World.var?_cell et e5 0
theorem vars_there {W : World} (h : W.ShapedOpen Tryz.prog) : (∃ cs t fz, W.heap[0]? = some (.cells cs t fz)) ∧ 2 ≤ W.heap.size := by
  obtain ⟨⟨z0, t0⟩, h0⟩ := Option.isSome_iff_exists.1 row0
  obtain ⟨⟨z1, t1⟩, h1⟩ := Option.isSome_iff_exists.1 row1
  obtain ⟨cs, g0, _⟩ := h.1 0 z0 t0 (by rw [globals2]; decide) h0
  obtain ⟨cs', g1, _⟩ := h.1 1 z1 t1 (by rw [globals2]; decide) h1
  refine ⟨⟨_, _, _, g0⟩, ?_⟩
  rcases Nat.lt_or_ge 1 W.heap.size with h | h
  · omega
  · rw [Array.getElem?_eq_none h] at g1; cases g1
theorem cell_there {W : World} {a : Addr} {v : Value} (h : W.cell? a = some v) : a.block < W.heap.size := by
  rcases Nat.lt_or_ge a.block W.heap.size with h1 | h1
  · exact h1
  · unfold World.cell? at h
    rw [Array.getElem?_eq_none h1] at h
    simp at h
/-- the runs, closed -/
theorem walk (hi : ∀ (κ : Bool) (n : Nat), n ≤ 60 → AM.idxRun AM.K1 2 0 AM.b00 κ n = true) (hk : AM.knownRun AM.TZ AM.K1 2 0 AM.b00 (AM.sl AM.B4) (AM.sl (AM.sr AM.B4)) = true)
    (hm : AM.madeRun AM.TZ AM.K1 2 0 AM.b00 (AM.sl AM.B4m) (AM.sl (AM.sr AM.B4m)) (AM.sl (AM.sr (AM.sr AM.B4m))) = true) (hrs : ∀ n c : Nat, n < 60 → c < 3 → AM.roundRun AM.TZ AM.K2 2 0 AM.b00 AM.SW AM.RST n c = true)
    {W : World} {a0 : Option Addr} {len cap : Nat} (hL : laidMetH Tryz.prog Rows.tableIdsRow.laid W) (hsh : W.ShapedOpen Tryz.prog)
    (hel : ∀ i, i < len → ∃ (ad : Addr) (z : Nat), a0 = some ad ∧ W.cell? (ad.add i) = some (.int .u8 (z : Int))) :
    Calls Tryz.prog 4 #[.slice a0 len cap] W fun e W' => e = .returned (.bool true) ∧ Below W.heap.size W W' := by
  obtain ⟨⟨cs, t, fz, h0⟩, h2⟩ := vars_there hsh
  have hc := handle_of_laid hL
  have hc' : cs[0]? = some (.iface 219 (.agg #[.pointer (some ⟨2, 27, none⟩)])) := by
    rw [← hc]
    simp [World.cell?, h0]
  refine (AM.tz_law hi hk hm hrs (L := len) (cp := cap) (b := a0) h0 hc' h2 (fun i hi => ?_)).mono fun e W' ⟨he, h⟩ => ⟨he, ⟨h.2.2.1, h.2.2.2.2, h.2.2.2.1, h.2.1, h.1⟩⟩
  obtain ⟨ad, z, e1, e2⟩ := hel i hi
  exact ⟨ad, z, e1, cell_there e2, e2⟩
theorem byte_of {z : Int} (h : (Lit.int .u8 z).wf = true) : ∃ n : Nat, z = (n : Int) := by
  have : 0 ≤ z := by
    simp [Lit.wf, IntKind.min, IntKind.max, IntKind.signed, IntKind.bits] at h
    omega
  exact ⟨z.toNat, by omega⟩
end Go.Proofs.YtggjomdndfacgaaGreatDoor.tableIds

namespace Go.Proofs.YtggjomdndfacgaaGreatDoor.tableIds
open Go.ChangeShapes Go.WideShapes Go.RowKit

def Runs : Prop := (∀ (κ : Bool) (n : Nat), n ≤ 60 → AM.idxRun AM.K1 2 0 AM.b00 κ n = true) ∧ AM.knownRun AM.TZ AM.K1 2 0 AM.b00 (AM.sl AM.B4) (AM.sl (AM.sr AM.B4)) = true ∧
    AM.madeRun AM.TZ AM.K1 2 0 AM.b00 (AM.sl AM.B4m) (AM.sl (AM.sr AM.B4m)) (AM.sl (AM.sr (AM.sr AM.B4m))) = true ∧ ∀ n c : Nat, n < 60 → c < 3 → AM.roundRun AM.TZ AM.K2 2 0 AM.b00 AM.SW AM.RST n c = true
theorem open_arg {P : Program} {fn : Func} {W : World} {base : Nat} {v0 : Value} (hp : fn.params = #[22]) (hu : P.underlying 22 = some (.slice 5)) (hval : ∀ (j : Nat) t v, fn.params[j]? = some t → #[v0][j]? = some v → Value.okWide P W .any base t v) : ∃ a len cap, v0 = .slice a len cap :=
  okWide_slice hu (hval 0 22 v0 (by rw [hp]; rfl) rfl)
set_option maxRecDepth 100000 in
theorem contract (runs : Runs) (H : Type) (enc : TypeId × Value → H) (W : World) (base : Nat) (args : Array Value) (ds gs : List (DataW H)) (before : List MemPlace)
    (hval : ∀ (j : Nat) t v, Tryz.f4.params[j]? = some t → args[j]? = some v → Value.okWide Tryz.prog W .any base t v)
    (hW : DataW.Whole enc Tryz.prog Tryz.f4.params.toList Rows.tableIdsSpec.vars false W args.toList ds gs before) (hL : laidMetH Tryz.prog Rows.tableIdsRow.laid W) (hsh : W.ShapedOpen Tryz.prog) :
    Calls Tryz.prog 4 args W fun e W' => ∃ v, e = .returned v ∧ Rows.tableIdsSpec.post enc Tryz.prog Tryz.f4 false true false false W args v W' := by
  have hW' := hW
  obtain ⟨p, q, hA0, hV, rfl, hfz, hnd⟩ := hW
  have hA : DataW.TrodAll enc Tryz.prog W 0 (fun _ => true) true Tryz.f4.params.toList args.toList ds p := hA0
  rw [Tryz.params4] at hA
  obtain ⟨v0, vs0, d0, ds0, p0, q0, hargs, rfl, rfl, h0, r0⟩ := trodAll_cons hA
  obtain ⟨rfl, rfl, rfl⟩ := trodAll_nil r0
  obtain rfl : args = #[v0] := by rw [← Array.toList_inj]; exact hargs
  obtain ⟨rfl, rfl⟩ := trodVars_none hV
  obtain ⟨a0, len, cap, rfl⟩ := open_arg Tryz.params4 Tryz.underlying22 hval
  have h0k := h0
  obtain ⟨fuel, hf⟩ := h0
  clear hA0
  have hlt : ∀ x ∈ p0, x.block < W.heap.size := fun x hx => by simpa using hW'.lt x (by simp [hx])
  have close : (∀ i, i < len → ∃ (ad : Addr) (z : Nat), a0 = some ad ∧ W.cell? (ad.add i) = some (.int .u8 (z : Int))) →
      Calls Tryz.prog 4 #[.slice a0 len cap] W fun e W' => ∃ v, e = .returned v ∧ Rows.tableIdsSpec.post enc Tryz.prog Tryz.f4 false true false false W #[.slice a0 len cap] v W' := by
    intro hel
    refine (walk runs.1 runs.2.1 runs.2.2.1 runs.2.2.2 (cap := cap) hL hsh hel).mono fun e W' ⟨he, hb⟩ => ?_
    subst he
    refine ⟨_, rfl, [d0], [], _, [], p0, [], hW', ?_, ?_, rfl, hb.frame _, fun h => by cases h⟩
    · exact trodAll_mk1 (shut_bool Tryz.underlying4 true)
    · have := hb.trod laidOut readable (of_decide_eq_true inTable) h0k hlt
      exact trodAll_mk1 this
  rcases open_ints Tryz.underlying22 Tryz.underlying5 cells5 hf with ⟨hcs, hx⟩ | ⟨a, len', cap', zs, hcs, _, hl, hmx, hz, hx, hcell, hwz⟩
  · simp [Value.cells] at hcs
    obtain ⟨rfl, rfl, rfl⟩ := hcs
    exact close fun i hi => absurd hi (by omega)
  · simp [Value.cells] at hcs
    obtain ⟨rfl, rfl, rfl⟩ := hcs
    simp only [if_true] at hz
    refine close fun i hi => ?_
    have hi' : i < zs.length := by omega
    obtain ⟨n, hn⟩ := byte_of (hwz (zs.getD i 0) (by simp only [List.getD, List.getElem?_eq_getElem hi', Option.getD_some]; exact List.getElem_mem hi'))
    exact ⟨a, n, rfl, by rw [hcell i hi', hn]⟩

/-- a world for the witness: the settled one, the variable's cell laid -/
noncomputable def laidWorld (os : Os) : World :=
  { World.holding Tryz.prog os ⟨#[], #[], []⟩ with heap := (World.holding Tryz.prog os ⟨#[], #[], []⟩).heap.modify 0 fun
      | .cells _ t frozen => .cells #[.iface 219 (.agg #[.pointer (some ⟨2, 27, none⟩)])] t frozen
      | o => o }
theorem laid_met (os : Os) : laidMetH Tryz.prog Rows.tableIdsRow.laid ((laidWorld os).forCall (fun _ _ => 0) ⟨#[], #[.slice none 0 0], []⟩).memory :=
  laidMetH_of_parts (laidMet_nil _ _) (by kernel_rfl)
theorem reads (os : Os) {H : Type} (enc : TypeId × Value → H) : ∃ places, DataW.whole enc Tryz.prog ((laidWorld os).forCall (fun _ _ => 0) ⟨#[], #[.slice none 0 0], []⟩).memory Tryz.f4.params.toList Rows.tableIdsSpec.vars false #[Value.slice none 0 0].toList 8 = some ([.nil], [], places) :=
  ⟨[], by kernel_rfl⟩

set_option maxRecDepth 100000 in
theorem lifted (runs : Runs) (os : Os) (started : os.Started) (H : Type) (enc : TypeId × Value → H) (F : Stop.Interp) :
    ReturnsInHanded {} Tryz.checked os 4 .any ((OpenSpec.ofChange Rows.tableIdsSpec).preRow enc Tryz.prog Tryz.f4 Rows.tableIdsRow.domain false Rows.tableIdsRow.laid) (((OpenSpec.ofChange Rows.tableIdsSpec).at F).post enc Tryz.prog Tryz.f4 false true false false) := by
  obtain ⟨places, hx⟩ := reads os enc
  refine returnsInHanded_of_row (C := Tryz.checked) (s := OpenSpec.ofChange Rows.tableIdsSpec) own started (by kernel_rfl) Tryz.func4
    (witness_row_at (enc := enc) (C := Tryz.checked) false (laidWorld os) #[.slice none 0 0] rfl (by kernel_rfl) (by kernel_rfl) (by kernel_rfl)
      (OpenSpec.preRow_of_cond 8 hx (by kernel_rfl) (fun k hk => by cases hk) (by kernel_rfl) (laid_met os))) ?_
  intro W base args ds gs before hval hW _ _ _ hL hsh _
  exact contract runs H enc W base args ds gs before hval hW hL hsh

theorem said (runs : Runs) : Rows.TableIdsSaid :=
  OpenClaim.holds_of_cond 4 Tryz.f4 rfl rfl rfl rfl rfl rfl rfl ⟨rfl, rfl, rfl, rfl, rfl⟩ rfl rfl rfl rfl rfl (by kernel_rfl) Tryz.func4 (by kernel_rfl)
    (of_decide_eq_true (by kernel_rfl)) (by unfold Func.isWrapper; first | (rw [if_pos (by decide +kernel)]; kernel_rfl) | (rw [if_neg (by decide +kernel)]; exact ⟨rfl, rfl⟩))
    (fun os started H enc _ F => by rw [OpenClaim.pre_eq_preRow]; exact lifted runs os started H enc F)

theorem plain (f : FuncId) (fn : Func) (hf : Tryz.pinned.checked.prog.funcNamed "consistory/consistorylaw12.TableIds" = some f) (hfn : Tryz.pinned.checked.prog.funcs[f]? = some fn) :
    true = Tryz.pinned.checked.prog.looks [] ∧ ∀ (j : Nat) t, fn.params[j]? = some t → Tryz.pinned.checked.prog.wantsStandIn t = false := by
  obtain rfl : f = 4 := Option.some.inj ((show Tryz.prog.funcNamed "consistory/consistorylaw12.TableIds" = some 4 by kernel_rfl).symm.trans hf) |>.symm
  obtain rfl : fn = Tryz.f4 := (Option.some.inj (Tryz.func4.symm.trans hfn)).symm
  refine ⟨by kernel_rfl, fun j t ht => ?_⟩
  rw [Tryz.params4] at ht
  obtain rfl : t = 22 := by simpa using Array.mem_of_getElem? ht
  exact (show Tryz.prog.wantsStandIn 22 = false by kernel_rfl)
/-- the card -/
theorem card (runs : Runs) : Rows.TableIdsCardSaid :=
  Claim7.holds_tied_plain_at .later [] _ _ _ _ (said runs) (fun _ h => by cases h) (by kernel_rfl) (fun _ h => by cases h) tableIds_row_tie rfl ⟨rfl, rfl⟩ (by kernel_rfl) rfl plain (by kernel_rfl)
end Go.Proofs.YtggjomdndfacgaaGreatDoor.tableIds
