/- The card of the law. -/
import Derived.Test.YtggjomdndfacgaaGreatDoorCards
import Derived.Test.YtggjomdndfacgaaGreatDoorTie
import Derived.Carry
import Derived.OpenShut
import Derived.Deep.DeepHandedRow
import Derived.LaidHandle
import Derived.LaidLaws
import Derived.KernelRfl
import Derived.Test.YtggjomdndfacgaaGreatDoorUs3
set_option linter.unusedSectionVars false
set_option linter.unusedVariables false
set_option linter.unusedSimpArgs false
namespace Go.Proofs.YtggjomdndfacgaaGreatDoor.tableUnique
open Go.ChangeShapes Go.WideShapes Go.RowKit

theorem own : ownKnob Tryz.prog.godebug = none := by kernel_rfl
theorem et : Tryz.prog.globalNamed "errors.errorType" = some 0 := by kernel_rfl
theorem rt : (Tryz.prog.cutTypes.find? (·.1 == "internal/reflectlite.rtype")).map (·.2) = some 219 := by kernel_rfl
theorem oneRow : ((List.range Tryz.prog.types.size).filter fun t => Tryz.prog.rowNamed t [101, 114, 114, 111, 114]) = [27] := by kernel_rfl
theorem handle27 : typeHandle Tryz.prog 27 = .pointer (some ⟨2, 27, none⟩) := by kernel_rfl
theorem cells5 : Tryz.prog.cellsOf 5 = 1 := by kernel_rfl
theorem laidOut : laidOutB Tryz.prog = true := by kernel_rfl
theorem readable : Tryz.prog.readableRec 22 = true := by kernel_rfl
theorem inTable : decide (22 < Tryz.prog.types.size) = true := by kernel_rfl
theorem globals2 : Tryz.prog.globals.size = 2 := by kernel_rfl
theorem row0 : (((begin Tryz.prog (fun _ _ => 0) default).world.heap[0]?).bind Obj.row?).isSome = true := by kernel_rfl
theorem row1 : (((begin Tryz.prog (fun _ _ => 0) default).world.heap[1]?).bind Obj.row?).isSome = true := by kernel_rfl

/-- what the row's list gives: the variable's one cell -/
theorem handle_of_laid {W : World} (h : laidMetH Tryz.prog Rows.tableUniqueRow.laid W) : W.cell? ⟨0, 0, none⟩ = some (.iface 219 (.agg #[.pointer (some ⟨2, 27, none⟩)])) := by
  have h' : laidMet Tryz.prog [] W ∧ handlesMet Tryz.prog Rows.tableUniqueRow.laid W := h
  obtain ⟨name, u, ty, e1, e2, e3, e4, e5⟩ := h'.2 _ (List.mem_singleton.2 rfl)
  have en : name = [101, 114, 114, 111, 114] := (Option.some.inj e1).symm
  subst en
  obtain rfl := Option.some.inj (rt.symm.trans e2)
  have hm : ty ∈ (List.range Tryz.prog.types.size).filter fun t => Tryz.prog.rowNamed t [101, 114, 114, 111, 114] := List.mem_filter.2 ⟨List.mem_range.2 e3, e4⟩
  rw [oneRow] at hm
  obtain rfl := List.mem_singleton.1 hm
  rw [handle27] at e5
  simpa using World.var?_cell et e5 0
theorem vars_there {W : World} (h : W.ShapedOpen Tryz.prog) : (∃ cs t fz, W.heap[0]? = some (.cells cs t fz)) ∧ 2 ≤ W.heap.size := by
  obtain ⟨⟨z0, t0⟩, h0⟩ := Option.isSome_iff_exists.1 row0
  obtain ⟨⟨z1, t1⟩, h1⟩ := Option.isSome_iff_exists.1 row1
  obtain ⟨cs, g0, _⟩ := h.1 0 z0 t0 (by rw [globals2]; decide) h0
  obtain ⟨cs', g1, _⟩ := h.1 1 z1 t1 (by rw [globals2]; decide) h1
  refine ⟨⟨_, _, _, g0⟩, ?_⟩
  rcases Nat.lt_or_ge 1 W.heap.size with h | h
  · omega
  · rw [Array.getElem?_eq_none h] at g1; cases g1
theorem cell_there {W : World} {a : Addr} {v : Value} (h : W.cell? a = some v) : a.block < W.heap.size := by
  rcases Nat.lt_or_ge a.block W.heap.size with h1 | h1
  · exact h1
  · unfold World.cell? at h
    rw [Array.getElem?_eq_none h1] at h
    simp at h
/-- the law in a world that the card describes -/
theorem walk {W : World} {a0 : Option Addr} {len cap : Nat} (hL : laidMetH Tryz.prog Rows.tableUniqueRow.laid W) (hsh : W.ShapedOpen Tryz.prog)
    (hel : ∀ i, i < len → ∃ (ad : Addr) (z : Nat), a0 = some ad ∧ W.cell? (ad.add i) = some (.int .u8 (z : Int)) ∧ z < 256) :
    Calls Tryz.prog 3 #[.slice a0 len cap] W fun e W' => e = .returned (.bool true) ∧ Below W.heap.size W W' := by
  obtain ⟨⟨cs, t, fz, h0⟩, h2⟩ := vars_there hsh
  have hc := handle_of_laid hL
  have hc' : cs[0]? = some (.iface 219 (.agg #[.pointer (some ⟨2, 27, none⟩)])) := by
    rw [← hc]
    simp [World.cell?, h0]
  refine (AM.tz_law_u (L := len) (cp := cap) (b := a0) h0 hc' h2 (fun i hi => ?_)).mono fun e W' h => ⟨h.1, ⟨h.2.2.2.1, h.2.2.2.2.2, h.2.2.2.2.1, h.2.2.1, h.2.1⟩⟩
  obtain ⟨ad, z, e1, e2, e3⟩ := hel i hi
  exact ⟨ad, z, e1, cell_there e2, e2, e3⟩
theorem byte_of {z : Int} (h : (Lit.int .u8 z).wf = true) : ∃ n : Nat, z = (n : Int) ∧ n < 256 := by
  have : 0 ≤ z ∧ z < 256 := by
    simp [Lit.wf, IntKind.min, IntKind.max, IntKind.signed, IntKind.bits] at h
    omega
  exact ⟨z.toNat, by omega, by omega⟩
end Go.Proofs.YtggjomdndfacgaaGreatDoor.tableUnique

namespace Go.Proofs.YtggjomdndfacgaaGreatDoor.tableUnique
open Go.ChangeShapes Go.WideShapes Go.RowKit

theorem open_arg {P : Program} {fn : Func} {W : World} {base : Nat} {v0 : Value} (hp : fn.params = #[22]) (hu : P.underlying 22 = some (.slice 5)) (hval : ∀ (j : Nat) t v, fn.params[j]? = some t → #[v0][j]? = some v → Value.okWide P W .any base t v) : ∃ a len cap, v0 = .slice a len cap :=
  okWide_slice hu (hval 0 22 v0 (by rw [hp]; rfl) rfl)
set_option maxRecDepth 100000 in
theorem contract (H : Type) (enc : TypeId × Value → H) (W : World) (base : Nat) (args : Array Value) (ds gs : List (DataW H)) (before : List MemPlace)
    (hval : ∀ (j : Nat) t v, Tryz.f3.params[j]? = some t → args[j]? = some v → Value.okWide Tryz.prog W .any base t v)
    (hW : DataW.Whole enc Tryz.prog Tryz.f3.params.toList Rows.tableUniqueSpec.vars false W args.toList ds gs before) (hL : laidMetH Tryz.prog Rows.tableUniqueRow.laid W) (hsh : W.ShapedOpen Tryz.prog) :
    Calls Tryz.prog 3 args W fun e W' => ∃ v, e = .returned v ∧ Rows.tableUniqueSpec.post enc Tryz.prog Tryz.f3 false true false false W args v W' := by
  have hW' := hW
  obtain ⟨p, q, hA0, hV, rfl, hfz, hnd⟩ := hW
  have hA : DataW.TrodAll enc Tryz.prog W 0 (fun _ => true) true Tryz.f3.params.toList args.toList ds p := hA0
  rw [Tryz.params3] at hA
  obtain ⟨v0, vs0, d0, ds0, p0, q0, hargs, rfl, rfl, h0, r0⟩ := trodAll_cons hA
  obtain ⟨rfl, rfl, rfl⟩ := trodAll_nil r0
  obtain rfl : args = #[v0] := by rw [← Array.toList_inj]; exact hargs
  obtain ⟨rfl, rfl⟩ := trodVars_none hV
  obtain ⟨a0, len, cap, rfl⟩ := open_arg Tryz.params3 Tryz.underlying22 hval
  have h0k := h0
  obtain ⟨fuel, hf⟩ := h0
  clear hA0
  have hlt : ∀ x ∈ p0, x.block < W.heap.size := fun x hx => by simpa using hW'.lt x (by simp [hx])
  have close : (∀ i, i < len → ∃ (ad : Addr) (z : Nat), a0 = some ad ∧ W.cell? (ad.add i) = some (.int .u8 (z : Int)) ∧ z < 256) →
      Calls Tryz.prog 3 #[.slice a0 len cap] W fun e W' => ∃ v, e = .returned v ∧ Rows.tableUniqueSpec.post enc Tryz.prog Tryz.f3 false true false false W #[.slice a0 len cap] v W' := by
    intro hel
    refine (walk (cap := cap) hL hsh hel).mono fun e W' ⟨he, hb⟩ => ?_
    subst he
    refine ⟨_, rfl, [d0], [], _, [], p0, [], hW', ?_, ?_, rfl, hb.frame _, fun h => by cases h⟩
    · exact trodAll_mk1 (shut_bool Tryz.underlying4 true)
    · have := hb.trod laidOut readable (of_decide_eq_true inTable) h0k hlt
      exact trodAll_mk1 this
  rcases open_ints Tryz.underlying22 Tryz.underlying5 cells5 hf with ⟨hcs, hx⟩ | ⟨a, len', cap', zs, hcs, _, hl, hmx, hz, hx, hcell, hwz⟩
  · simp [Value.cells] at hcs
    obtain ⟨rfl, rfl, rfl⟩ := hcs
    exact close fun i hi => absurd hi (by omega)
  · simp [Value.cells] at hcs
    obtain ⟨rfl, rfl, rfl⟩ := hcs
    simp only [if_true] at hz
    refine close fun i hi => ?_
    have hi' : i < zs.length := by omega
    obtain ⟨n, hn, hn2⟩ := byte_of (hwz (zs.getD i 0) (by simp only [List.getD, List.getElem?_eq_getElem hi', Option.getD_some]; exact List.getElem_mem hi'))
    exact ⟨a, n, rfl, by rw [hcell i hi', hn], hn2⟩

/-- a world for the witness: the settled one, the variable's cell laid -/
noncomputable def laidWorld (os : Os) : World :=
  { World.holding Tryz.prog os ⟨#[], #[], []⟩ with heap := (World.holding Tryz.prog os ⟨#[], #[], []⟩).heap.modify 0 fun
      | .cells _ t frozen => .cells #[.iface 219 (.agg #[.pointer (some ⟨2, 27, none⟩)])] t frozen
      | o => o }
theorem laid_met (os : Os) : laidMetH Tryz.prog Rows.tableUniqueRow.laid ((laidWorld os).forCall (fun _ _ => 0) ⟨#[], #[.slice none 0 0], []⟩).memory :=
  laidMetH_of_parts (laidMet_nil _ _) (by kernel_rfl)
theorem reads (os : Os) {H : Type} (enc : TypeId × Value → H) : ∃ places, DataW.whole enc Tryz.prog ((laidWorld os).forCall (fun _ _ => 0) ⟨#[], #[.slice none 0 0], []⟩).memory Tryz.f3.params.toList Rows.tableUniqueSpec.vars false #[Value.slice none 0 0].toList 8 = some ([.nil], [], places) :=
  ⟨[], by kernel_rfl⟩

set_option maxRecDepth 100000 in
theorem lifted (os : Os) (started : os.Started) (H : Type) (enc : TypeId × Value → H) (F : Stop.Interp) :
    ReturnsInHanded {} Tryz.checked os 3 .any ((OpenSpec.ofChange Rows.tableUniqueSpec).preRow enc Tryz.prog Tryz.f3 Rows.tableUniqueRow.domain false Rows.tableUniqueRow.laid) (((OpenSpec.ofChange Rows.tableUniqueSpec).at F).post enc Tryz.prog Tryz.f3 false true false false) := by
  obtain ⟨places, hx⟩ := reads os enc
  refine returnsInHanded_of_row (C := Tryz.checked) (s := OpenSpec.ofChange Rows.tableUniqueSpec) own started (by kernel_rfl) Tryz.func3
    (witness_row_at (enc := enc) (C := Tryz.checked) false (laidWorld os) #[.slice none 0 0] rfl (by kernel_rfl) (by kernel_rfl) (by kernel_rfl)
      (OpenSpec.preRow_of_cond 8 hx (by kernel_rfl) (fun k hk => by cases hk) (by kernel_rfl) (laid_met os))) ?_
  intro W base args ds gs before hval hW _ _ _ hL hsh _
  exact contract H enc W base args ds gs before hval hW hL hsh

theorem said : Rows.TableUniqueSaid :=
  OpenClaim.holds_of_cond 3 Tryz.f3 rfl rfl rfl rfl rfl rfl rfl ⟨rfl, rfl, rfl, rfl, rfl⟩ rfl rfl rfl rfl rfl (by kernel_rfl) Tryz.func3 (by kernel_rfl)
    (of_decide_eq_true (by kernel_rfl)) (by unfold Func.isWrapper; first | (rw [if_pos (by decide +kernel)]; kernel_rfl) | (rw [if_neg (by decide +kernel)]; exact ⟨rfl, rfl⟩))
    (fun os started H enc _ F => by rw [OpenClaim.pre_eq_preRow]; exact lifted os started H enc F)

theorem plain (f : FuncId) (fn : Func) (hf : Tryz.pinned.checked.prog.funcNamed "consistory/consistorylaw12.TableUnique" = some f) (hfn : Tryz.pinned.checked.prog.funcs[f]? = some fn) :
    true = Tryz.pinned.checked.prog.looks [] ∧ ∀ (j : Nat) t, fn.params[j]? = some t → Tryz.pinned.checked.prog.wantsStandIn t = false := by
  obtain rfl : f = 3 := Option.some.inj ((show Tryz.prog.funcNamed "consistory/consistorylaw12.TableUnique" = some 3 by kernel_rfl).symm.trans hf) |>.symm
  obtain rfl : fn = Tryz.f3 := (Option.some.inj (Tryz.func3.symm.trans hfn)).symm
  refine ⟨by kernel_rfl, fun j t ht => ?_⟩
  rw [Tryz.params3] at ht
  obtain rfl : t = 22 := by simpa using Array.mem_of_getElem? ht
  exact (show Tryz.prog.wantsStandIn 22 = false by kernel_rfl)
/-- the card -/
theorem card : Rows.TableUniqueCardSaid :=
  Claim7.holds_tied_plain_at .later [] _ _ _ _ said (fun _ h => by cases h) (by kernel_rfl) (fun _ h => by cases h) tableUnique_row_tie rfl ⟨rfl, rfl⟩ (by kernel_rfl) rfl plain (by kernel_rfl)
end Go.Proofs.YtggjomdndfacgaaGreatDoor.tableUnique
