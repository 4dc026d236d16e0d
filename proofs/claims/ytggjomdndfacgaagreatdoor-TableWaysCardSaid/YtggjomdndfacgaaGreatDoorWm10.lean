/- For TableWays: TwCard TwCard2. -/
import Derived.Test.YtggjomdndfacgaaGreatDoorCards
import Derived.Test.YtggjomdndfacgaaGreatDoorTie
import Derived.Carry
import Derived.OpenShut
import Derived.Deep.DeepHandedRow
import Derived.LaidHandle
import Derived.LaidLaws
import Derived.KernelRfl
import Derived.Test.YtggjomdndfacgaaGreatDoorWm9
set_option linter.unusedSectionVars false
set_option linter.unusedVariables false
set_option linter.unusedSimpArgs false
noncomputable section
namespace Go.Proofs.YtggjomdndfacgaaGreatDoor.tableWays
open Go.ChangeShapes Go.WideShapes Go.RowKit
theorem own:ownKnob Tryz.prog.godebug=none:=by kernel_rfl
theorem et:Tryz.prog.globalNamed "errors.errorType" = some 0:=by kernel_rfl
theorem rt:(Tryz.prog.cutTypes.find? (·.1 == "internal/reflectlite.rtype")).map (·.2)=some 219:=by kernel_rfl
theorem oneRow:((List.range Tryz.prog.types.size).filter fun t=>Tryz.prog.rowNamed t [101,114,114,111,114])=[27]:=by kernel_rfl
theorem handle27:typeHandle Tryz.prog 27=.pointer (some ⟨2,27,none⟩):=by kernel_rfl
theorem cells5:Tryz.prog.cellsOf 5=1:=by kernel_rfl
theorem laidOut:laidOutB Tryz.prog=true:=by kernel_rfl
theorem readable22:Tryz.prog.readableRec 22=true:=by kernel_rfl
theorem inTable22:decide (22<Tryz.prog.types.size)=true:=by kernel_rfl
theorem readable70:Tryz.prog.readableRec 70=true:=by kernel_rfl
theorem inTable70:decide (70<Tryz.prog.types.size)=true:=by kernel_rfl
theorem cells71:Tryz.prog.cellsOf 71=1:=by kernel_rfl
theorem globals2:Tryz.prog.globals.size=2:=by kernel_rfl
theorem row0:(((begin Tryz.prog (fun _ _=>0) default).world.heap[0]?).bind Obj.row?).isSome=true:=by kernel_rfl
theorem row1:(((begin Tryz.prog (fun _ _=>0) default).world.heap[1]?).bind Obj.row?).isSome=true:=by kernel_rfl
theorem handle_of_laid {W:World} (h:laidMetH Tryz.prog Rows.tableWaysRow.laid W):W.cell? ⟨0,0,none⟩=some (.iface 219 (.agg #[.pointer (some ⟨2,27,none⟩)])):=by
 have h':laidMet Tryz.prog [] W∧handlesMet Tryz.prog Rows.tableWaysRow.laid W:=h
 obtain ⟨name,u,ty,e1,e2,e3,e4,e5⟩:=h'.2 _ (List.mem_singleton.2 rfl)
 have en:name=[101,114,114,111,114]:=(Option.some.inj e1).symm
 subst en
 obtain rfl:=Option.some.inj (rt.symm.trans e2)
 have hm:ty∈(List.range Tryz.prog.types.size).filter fun t=>Tryz.prog.rowNamed t [101,114,114,111,114]:=List.mem_filter.2 ⟨List.mem_range.2 e3,e4⟩
 rw[oneRow] at hm
 obtain rfl:=List.mem_singleton.1 hm
 rw[handle27] at e5
 simpa using World.var?_cell et e5 0
theorem vars_there {W:World} (h:W.ShapedOpen Tryz.prog):(∃ cs t fz,W.heap[0]? = some (.cells cs t fz))∧2≤W.heap.size:=by
 obtain ⟨⟨z0,t0⟩,h0⟩:=Option.isSome_iff_exists.1 row0
 obtain ⟨⟨z1,t1⟩,h1⟩:=Option.isSome_iff_exists.1 row1
 obtain ⟨cs,g0,_⟩:=h.1 0 z0 t0 (by rw[globals2]; decide) h0
 obtain ⟨cs',g1,_⟩:=h.1 1 z1 t1 (by rw[globals2]; decide) h1
 refine ⟨⟨_,_,_,g0⟩,?_⟩
 rcases Nat.lt_or_ge 1 W.heap.size with h|h
 · omega
 · rw[Array.getElem?_eq_none h] at g1; cases g1
theorem cell_there {W:World} {a:Addr} {v:Value} (h:W.cell? a=some v):a.block<W.heap.size:=by
 rcases Nat.lt_or_ge a.block W.heap.size with h1|h1
 · exact h1
 · unfold World.cell? at h
   rw[Array.getElem?_eq_none h1] at h
   simp at h
theorem walk {W:World} {al bl:Option Addr} {n c1 n2 c2 what:Nat} {lo hi:Int} {A B:Nat→Nat} (hL:laidMetH Tryz.prog Rows.tableWaysRow.laid W) (hsh:W.ShapedOpen Tryz.prog)
 (ha:∀ i,i<n→∃ (ad:Addr),al=some ad∧W.cell? (ad.add i)=some (.int .i8 (AM.numZ (A i)))∧A i<256) (hb:∀ i,i<n2→∃ (ad:Addr),bl=some ad∧W.cell? (ad.add i)=some (.int .u8 (B i:Int))∧B i<256) (hlo:-128≤lo∧lo<128) (hhi:-128≤hi∧hi<128) :
 Calls Tryz.prog 5 #[.slice al n c1,.slice bl n2 c2,.int .i8 lo,.int .i8 hi,.int .u8 (what:Int)] W fun e W'=>e=.returned (.bool true)∧Below W.heap.size W W':=by
 obtain ⟨⟨cs,t,fz,h0⟩,h2⟩:=vars_there hsh
 have hc:=handle_of_laid hL
 have hc':cs[0]? = some (.iface 219 (.agg #[.pointer (some ⟨2,27,none⟩)])):=by
  rw[← hc]
  simp[World.cell?,h0]
 refine (AM.law5 (A:=A) (B:=B) ⟨h2,cs,t,fz,h0,hc'⟩ (fun i hi=>?_) (fun i hi=>?_) (fun i hi=>?_) (fun i hi=>?_) hlo hhi).mono fun e W' h=>⟨h.1,⟨h.2.2.2.1,h.2.2.2.2.2,h.2.2.2.2.1,h.2.2.1,h.2.1⟩⟩
 · obtain ⟨_,_,_,h⟩:=ha i hi
   exact h
 · obtain ⟨_,_,_,h⟩:=hb i hi
   exact h
 · obtain ⟨ad,e1,e2,_⟩:=ha i hi
   exact ⟨ad,e1,cell_there e2,e2⟩
 · obtain ⟨ad,e1,e2,_⟩:=hb i hi
   exact ⟨ad,e1,cell_there e2,e2⟩
theorem byte_of {z:Int} (h:(Lit.int .u8 z).wf=true):∃ n:Nat,z=(n:Int)∧n<256:=by
 have:0≤z∧z<256:=by
  simp[Lit.wf,IntKind.min,IntKind.max,IntKind.signed,IntKind.bits] at h
  omega
 exact ⟨z.toNat,by omega,by omega⟩
theorem i8_of {z:Int} (h:(Lit.int .i8 z).wf=true):-128≤z∧z<128:=by
 have:-128≤z∧z≤127:=by
  simp[Lit.wf,IntKind.min,IntKind.max,IntKind.signed,IntKind.bits] at h
  omega
 omega
theorem numZ_of {z:Int} (h:-128≤z∧z<128):AM.numZ (z+128).toNat=z∧(z+128).toNat<256:=by
 refine ⟨?_,by omega⟩
 unfold AM.numZ
 rw[Int.subNatNat_eq_coe]
 omega
end Go.Proofs.YtggjomdndfacgaaGreatDoor.tableWays
namespace Go.Proofs.YtggjomdndfacgaaGreatDoor.tableWays
open Go.ChangeShapes Go.WideShapes Go.RowKit
theorem plain (f:FuncId) (fn:Func) (hf:Tryz.pinned.checked.prog.funcNamed "consistory/consistorylaw12.TableWays" = some f) (hfn:Tryz.pinned.checked.prog.funcs[f]? = some fn) :
 true=Tryz.pinned.checked.prog.looks []∧∀ (j:Nat) t,fn.params[j]? = some t→Tryz.pinned.checked.prog.wantsStandIn t=false:=by
 obtain rfl:f=5:=Option.some.inj ((show Tryz.prog.funcNamed "consistory/consistorylaw12.TableWays" = some 5 by kernel_rfl).symm.trans hf) |>.symm
 obtain rfl:fn=Tryz.f5:=(Option.some.inj (Tryz.func5.symm.trans hfn)).symm
 refine ⟨by kernel_rfl,fun j t ht=>?_⟩
 rw[Tryz.params5] at ht
 match j,ht with
 |0,ht=>
  obtain rfl:70=t:=Option.some.inj ht
  exact (show Tryz.prog.wantsStandIn 70=false by kernel_rfl)
 |1,ht=>
  obtain rfl:22=t:=Option.some.inj ht
  exact (show Tryz.prog.wantsStandIn 22=false by kernel_rfl)
 |2,ht=>
  obtain rfl:71=t:=Option.some.inj ht
  exact (show Tryz.prog.wantsStandIn 71=false by kernel_rfl)
 |3,ht=>
  obtain rfl:71=t:=Option.some.inj ht
  exact (show Tryz.prog.wantsStandIn 71=false by kernel_rfl)
 |4,ht=>
  obtain rfl:5=t:=Option.some.inj ht
  exact (show Tryz.prog.wantsStandIn 5=false by kernel_rfl)
 |k+5,ht=>simp at ht
end Go.Proofs.YtggjomdndfacgaaGreatDoor.tableWays
