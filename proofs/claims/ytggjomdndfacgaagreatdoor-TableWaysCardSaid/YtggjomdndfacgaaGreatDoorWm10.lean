/- For TableWays: TwCard TwCard2. -/
import Derived.Test.YtggjomdndfacgaaGreatDoorCards
import Derived.Test.YtggjomdndfacgaaGreatDoorTie
import Derived.Carry
import Derived.OpenShut
import Derived.Deep.DeepHandedRow
import Derived.LaidHandle
import Derived.LaidLaws
import Derived.KernelRfl
import Derived.Test.YtggjomdndfacgaaGreatDoorWm9
set_option linter.unusedSectionVars false
set_option linter.unusedVariables false
set_option linter.unusedSimpArgs false
noncomputable section
namespace Go.Proofs.YtggjomdndfacgaaGreatDoor.tableWays
open Go.ChangeShapes Go.WideShapes Go.RowKit
theorem own:ownKnob Tryz.prog.godebug=none:=by kernel_rfl
theorem et:Tryz.prog.globalNamed "errors.errorType" = some 0:=by kernel_rfl
theorem rt:(Tryz.prog.cutTypes.find? (·.1 == "internal/reflectlite.rtype")).map (·.2)=some 219:=by kernel_rfl
theorem oneRow:((List.range Tryz.prog.types.size).filter fun t=>Tryz.prog.rowNamed t [101,114,114,111,114])=[27]:=by kernel_rfl
theorem handle27:typeHandle Tryz.prog 27=.pointer (some ⟨2,27,none⟩):=by kernel_rfl
theorem cells5:Tryz.prog.cellsOf 5=1:=by kernel_rfl
theorem laidOut:laidOutB Tryz.prog=true:=by kernel_rfl
theorem readable22:Tryz.prog.readableRec 22=true:=by kernel_rfl
theorem inTable22:decide (22<Tryz.prog.types.size)=true:=by kernel_rfl
theorem readable70:Tryz.prog.readableRec 70=true:=by kernel_rfl
theorem inTable70:decide (70<Tryz.prog.types.size)=true:=by kernel_rfl
theorem cells71:Tryz.prog.cellsOf 71=1:=by kernel_rfl
theorem globals2:Tryz.prog.globals.size=2:=by kernel_rfl
theorem row0:(((begin Tryz.prog (fun _ _=>0) default).world.heap[0]?).bind Obj.row?).isSome=true:=by kernel_rfl
theorem row1:(((begin Tryz.prog (fun _ _=>0) default).world.heap[1]?).bind Obj.row?).isSome=true:=by kernel_rfl
theorem handle_of_laid {W:World} (h:laidMetH Tryz.prog Rows.tableWaysRow.laid W):W.cell? ⟨0,0,none⟩=some (.iface 219 (.agg #[.pointer (some ⟨2,27,none⟩)])):=by
 have h':laidMet Tryz.prog [] W∧handlesMet Tryz.prog Rows.tableWaysRow.laid W:=h
 obtain ⟨name,u,ty,e1,e2,e3,e4,e5⟩:=h'.2 _ (List.mem_singleton.2 rfl)
 have en:name=[101,114,114,111,114]:=(Option.some.inj e1).symm
 subst en
 obtain rfl:=Option.some.inj (rt.symm.trans e2)
 have hm:ty∈(List.range Tryz.prog.types.size).filter fun t=>Tryz.prog.rowNamed t [101,114,114,111,114]:=List.mem_filter.2 ⟨List.mem_range.2 e3,e4⟩
 rw[oneRow] at hm
 obtain rfl:=List.mem_singleton.1 hm
 rw[handle27] at e5
 simpa using World.var?_cell et e5 0
theorem vars_there {W:World} (h:W.ShapedOpen Tryz.prog):(∃ cs t fz,W.heap[0]? = some (.cells cs t fz))∧2≤W.heap.size:=by
 obtain ⟨⟨z0,t0⟩,h0⟩:=Option.isSome_iff_exists.1 row0
 obtain ⟨⟨z1,t1⟩,h1⟩:=Option.isSome_iff_exists.1 row1
 obtain ⟨cs,g0,_⟩:=h.1 0 z0 t0 (by rw[globals2]; decide) h0
 obtain ⟨cs',g1,_⟩:=h.1 1 z1 t1 (by rw[globals2]; decide) h1
 refine ⟨⟨_,_,_,g0⟩,?_⟩
 rcases Nat.lt_or_ge 1 W.heap.size with h|h
 · omega
 · rw[Array.getElem?_eq_none h] at g1; cases g1
theorem cell_there {W:World} {a:Addr} {v:Value} (h:W.cell? a=some v):a.block<W.heap.size:=by
 rcases Nat.lt_or_ge a.block W.heap.size with h1|h1
 · exact h1
 · unfold World.cell? at h
   rw[Array.getElem?_eq_none h1] at h
   simp at h
theorem walk {W:World} {al bl:Option Addr} {n c1 n2 c2 what:Nat} {lo hi:Int} {A B:Nat→Nat} (hL:laidMetH Tryz.prog Rows.tableWaysRow.laid W) (hsh:W.ShapedOpen Tryz.prog)
 (ha:∀ i,i<n→∃ (ad:Addr),al=some ad∧W.cell? (ad.add i)=some (.int .i8 (AM.numZ (A i)))∧A i<256) (hb:∀ i,i<n2→∃ (ad:Addr),bl=some ad∧W.cell? (ad.add i)=some (.int .u8 (B i:Int))∧B i<256) (hlo:-128≤lo∧lo<128) (hhi:-128≤hi∧hi<128) :
 Calls Tryz.prog 5 #[.slice al n c1,.slice bl n2 c2,.int .i8 lo,.int .i8 hi,.int .u8 (what:Int)] W fun e W'=>e=.returned (.bool true)∧Below W.heap.size W W':=by
 obtain ⟨⟨cs,t,fz,h0⟩,h2⟩:=vars_there hsh
 have hc:=handle_of_laid hL
 have hc':cs[0]? = some (.iface 219 (.agg #[.pointer (some ⟨2,27,none⟩)])):=by
  rw[← hc]
  simp[World.cell?,h0]
 refine (AM.law5 (A:=A) (B:=B) ⟨h2,cs,t,fz,h0,hc'⟩ (fun i hi=>?_) (fun i hi=>?_) (fun i hi=>?_) (fun i hi=>?_) hlo hhi).mono fun e W' h=>⟨h.1,⟨h.2.2.2.1,h.2.2.2.2.2,h.2.2.2.2.1,h.2.2.1,h.2.1⟩⟩
 · obtain ⟨_,_,_,h⟩:=ha i hi
   exact h
 · obtain ⟨_,_,_,h⟩:=hb i hi
   exact h
 · obtain ⟨ad,e1,e2,_⟩:=ha i hi
   exact ⟨ad,e1,cell_there e2,e2⟩
 · obtain ⟨ad,e1,e2,_⟩:=hb i hi
   exact ⟨ad,e1,cell_there e2,e2⟩
theorem byte_of {z:Int} (h:(Lit.int .u8 z).wf=true):∃ n:Nat,z=(n:Int)∧n<256:=by
 have:0≤z∧z<256:=by
  simp[Lit.wf,IntKind.min,IntKind.max,IntKind.signed,IntKind.bits] at h
  omega
 exact ⟨z.toNat,by omega,by omega⟩
theorem i8_of {z:Int} (h:(Lit.int .i8 z).wf=true):-128≤z∧z<128:=by
 have:-128≤z∧z≤127:=by
  simp[Lit.wf,IntKind.min,IntKind.max,IntKind.signed,IntKind.bits] at h
  omega
 omega
theorem numZ_of {z:Int} (h:-128≤z∧z<128):AM.numZ (z+128).toNat=z∧(z+128).toNat<256:=by
 refine ⟨?_,by omega⟩
 unfold AM.numZ
 rw[Int.subNatNat_eq_coe]
 omega
end Go.Proofs.YtggjomdndfacgaaGreatDoor.tableWays
namespace Go.Proofs.YtggjomdndfacgaaGreatDoor.tableWays
open Go.ChangeShapes Go.WideShapes Go.RowKit
set_option maxRecDepth 100000 in
theorem contract (H:Type) (enc:TypeId×Value→H) (W:World) (base:Nat) (args:Array Value) (ds gs:List (DataW H)) (before:List MemPlace)
 (hval:∀ (j:Nat) t v,Tryz.f5.params[j]? = some t→args[j]? = some v→Value.okWide Tryz.prog W .any base t v)
 (hW:DataW.Whole enc Tryz.prog Tryz.f5.params.toList Rows.tableWaysSpec.vars false W args.toList ds gs before) (hL:laidMetH Tryz.prog Rows.tableWaysRow.laid W) (hsh:W.ShapedOpen Tryz.prog) :
 Calls Tryz.prog 5 args W fun e W'=>∃ v,e=.returned v∧Rows.tableWaysSpec.post enc Tryz.prog Tryz.f5 false true false false W args v W':=by
 have hW':=hW
 obtain ⟨p,q,hA0,hV,rfl,hfz,hnd⟩:=hW
 have hA:DataW.TrodAll enc Tryz.prog W 0 (fun _=>true) true Tryz.f5.params.toList args.toList ds p:=hA0
 rw[Tryz.params5] at hA
 obtain ⟨v0,vs0,d0,ds0,p0,q0,hargs,rfl,rfl,h0,r0⟩:=trodAll_cons hA
 obtain ⟨v1,vs1,d1,ds1,p1,q1,rfl,rfl,rfl,h1,r1⟩:=trodAll_cons r0
 obtain ⟨v2,vs2,d2,ds2,p2,q2,rfl,rfl,rfl,h2,r2⟩:=trodAll_cons r1
 obtain ⟨v3,vs3,d3,ds3,p3,q3,rfl,rfl,rfl,h3,r3⟩:=trodAll_cons r2
 obtain ⟨v4,vs4,d4,ds4,p4,q4,rfl,rfl,rfl,h4,r4⟩:=trodAll_cons r3
 obtain ⟨rfl,rfl,rfl⟩:=trodAll_nil r4
 obtain rfl:args=#[v0,v1,v2,v3,v4]:=by rw[← Array.toList_inj]; exact hargs
 obtain ⟨rfl,rfl⟩:=trodVars_none hV
 have par:∀ (j:Nat) (t:TypeId) (v:Value),(#[70,22,71,71,5]:Array TypeId)[j]? = some t→(#[v0,v1,v2,v3,v4]:Array Value)[j]? = some v→Value.okWide Tryz.prog W .any base t v:=fun j t v h h'=>hval j t v (by rw[Tryz.params5]; exact h) h'
 obtain ⟨al,n,c1,rfl⟩:=okWide_slice Tryz.underlying70 (par 0 70 v0 rfl rfl)
 obtain ⟨bl,n2,c2,rfl⟩:=okWide_slice Tryz.underlying22 (par 1 22 v1 rfl rfl)
 obtain ⟨lo,rfl,rfl,rfl,wlo⟩:=open_int Tryz.underlying71 (par 2 71 v2 rfl rfl) h2
 obtain ⟨hi,rfl,rfl,rfl,whi⟩:=open_int Tryz.underlying71 (par 3 71 v3 rfl rfl) h3
 obtain ⟨wh,rfl,rfl,rfl,wwh⟩:=open_int Tryz.underlying5 (par 4 5 v4 rfl rfl) h4
 obtain ⟨what,rfl,_⟩:=byte_of wwh
 have h0k:=h0
 have h1k:=h1
 obtain ⟨fuel0,hf0⟩:=h0
 obtain ⟨fuel1,hf1⟩:=h1
 clear hA0
 have hlt0:∀ x∈p0,x.block<W.heap.size:=fun x hx=>by simpa using hW'.lt x (by simp[hx])
 have hlt1:∀ x∈p1,x.block<W.heap.size:=fun x hx=>by simpa using hW'.lt x (by simp[hx])
 have la:∃ A:Nat→Nat,∀ i,i<n→∃ (ad:Addr),al=some ad∧W.cell? (ad.add i)=some (.int .i8 (AM.numZ (A i)))∧A i<256:=by
  rcases open_ints Tryz.underlying70 Tryz.underlying71 cells71 hf0 with ⟨hcs,hx⟩|⟨a,len',cap',zs,hcs,_,hl,hmx,hz,hx,hcell,hwz⟩
  · simp[Value.cells] at hcs
    obtain ⟨rfl,rfl,rfl⟩:=hcs
    exact ⟨fun _=>0,fun i hi=>absurd hi (by omega)⟩
  · simp[Value.cells] at hcs
    obtain ⟨rfl,rfl,rfl⟩:=hcs
    simp only[if_true] at hz
    refine ⟨fun i=>(zs.getD i 0+128).toNat,fun i hi=>?_⟩
    have hi':i<zs.length:=by omega
    have hm:zs.getD i 0∈zs:=by simp only[List.getD,List.getElem?_eq_getElem hi',Option.getD_some]; exact List.getElem_mem hi'
    obtain ⟨e1,e2⟩:=numZ_of (i8_of (hwz _ hm))
    exact ⟨a,rfl,by rw[hcell i hi',e1],e2⟩
 have lb:∃ B:Nat→Nat,∀ i,i<n2→∃ (ad:Addr),bl=some ad∧W.cell? (ad.add i)=some (.int .u8 (B i:Int))∧B i<256:=by
  rcases open_ints Tryz.underlying22 Tryz.underlying5 cells5 hf1 with ⟨hcs,hx⟩|⟨a,len',cap',zs,hcs,_,hl,hmx,hz,hx,hcell,hwz⟩
  · simp[Value.cells] at hcs
    obtain ⟨rfl,rfl,rfl⟩:=hcs
    exact ⟨fun _=>0,fun i hi=>absurd hi (by omega)⟩
  · simp[Value.cells] at hcs
    obtain ⟨rfl,rfl,rfl⟩:=hcs
    simp only[if_true] at hz
    refine ⟨fun i=>(zs.getD i 0).toNat,fun i hi=>?_⟩
    have hi':i<zs.length:=by omega
    have hm:zs.getD i 0∈zs:=by simp only[List.getD,List.getElem?_eq_getElem hi',Option.getD_some]; exact List.getElem_mem hi'
    obtain ⟨m,hm1,hm2⟩:=byte_of (hwz _ hm)
    have e:(zs.getD i 0).toNat=m:=by omega
    have e2:(((zs.getD i 0).toNat:Nat):Int)=zs.getD i 0:=by omega
    refine ⟨a,rfl,?_,by show (zs.getD i 0).toNat<256; rw[e]; exact hm2⟩
    rw[hcell i hi']
    show _=some (Value.int .u8 (((zs.getD i 0).toNat:Nat):Int))
    rw[e2]
 obtain ⟨A,hA'⟩:=la
 obtain ⟨B,hB'⟩:=lb
 refine (walk (c1:=c1) (c2:=c2) (what:=what) hL hsh hA' hB' (i8_of wlo) (i8_of whi)).mono fun e W' ⟨he,hb⟩=>?_
 subst he
 refine ⟨_,rfl,[d0,d1,.lit (.int .i8 lo),.lit (.int .i8 hi),.lit (.int .u8 what)],[],_,[],p0++(p1++([]++([]++([]++[])))),[],hW',?_,?_,rfl,hb.frame _,fun h=>by cases h⟩
 · exact trodAll_mk1 (shut_bool Tryz.underlying4 true)
 · have g0:=hb.trod laidOut readable70 (of_decide_eq_true inTable70) h0k hlt0
   have g1:=hb.trod laidOut readable22 (of_decide_eq_true inTable22) h1k hlt1
   exact trodAll_cons_mk g0 (trodAll_cons_mk g1 (trodAll_cons_mk (shut_int Tryz.underlying71 wlo) (trodAll_cons_mk (shut_int Tryz.underlying71 whi) (trodAll_cons_mk (shut_int Tryz.underlying5 wwh) trodAll_mk0))))
def laidWorld (os:Os):World:=
 { World.holding Tryz.prog os ⟨#[],#[],[]⟩ with heap:=(World.holding Tryz.prog os ⟨#[],#[],[]⟩).heap.modify 0 fun
  | .cells _ t frozen=>.cells #[.iface 219 (.agg #[.pointer (some ⟨2,27,none⟩)])] t frozen
  |o=>o }
theorem laid_met (os:Os):laidMetH Tryz.prog Rows.tableWaysRow.laid ((laidWorld os).forCall (fun _ _=>0) ⟨#[],#[.slice none 0 0,.slice none 0 0,.int .i8 0,.int .i8 0,.int .u8 0],[]⟩).memory:=
 laidMetH_of_parts (laidMet_nil _ _) (by kernel_rfl)
theorem reads (os:Os) {H:Type} (enc:TypeId×Value→H):∃ places,DataW.whole enc Tryz.prog ((laidWorld os).forCall (fun _ _=>0) ⟨#[],#[.slice none 0 0,.slice none 0 0,.int .i8 0,.int .i8 0,.int .u8 0],[]⟩).memory Tryz.f5.params.toList Rows.tableWaysSpec.vars false #[Value.slice none 0 0,.slice none 0 0,.int .i8 0,.int .i8 0,.int .u8 0].toList 8=some ([.nil,.nil,.lit (.int .i8 0),.lit (.int .i8 0),.lit (.int .u8 0)],[],places):=
 ⟨[],by kernel_rfl⟩
set_option maxRecDepth 100000 in
theorem lifted (os:Os) (started:os.Started) (H:Type) (enc:TypeId×Value→H) (F:Stop.Interp) :
 ReturnsInHanded {} Tryz.checked os 5 .any ((OpenSpec.ofChange Rows.tableWaysSpec).preRow enc Tryz.prog Tryz.f5 Rows.tableWaysRow.domain false Rows.tableWaysRow.laid) (((OpenSpec.ofChange Rows.tableWaysSpec).at F).post enc Tryz.prog Tryz.f5 false true false false):=by
 obtain ⟨places,hx⟩:=reads os enc
 refine returnsInHanded_of_row (C:=Tryz.checked) (s:=OpenSpec.ofChange Rows.tableWaysSpec) own started (by kernel_rfl) Tryz.func5
  (witness_row_at (enc:=enc) (C:=Tryz.checked) false (laidWorld os) #[.slice none 0 0,.slice none 0 0,.int .i8 0,.int .i8 0,.int .u8 0] rfl (by kernel_rfl) (by kernel_rfl) (by kernel_rfl)
   (OpenSpec.preRow_of_cond 8 hx (by kernel_rfl) (fun k hk=>by cases hk) (by kernel_rfl) (laid_met os))) ?_
 intro W base args ds gs before hval hW _ _ _ hL hsh _
 exact contract H enc W base args ds gs before hval hW hL hsh
theorem said:Rows.TableWaysSaid:=
 OpenClaim.holds_of_cond 5 Tryz.f5 rfl rfl rfl rfl rfl rfl rfl ⟨rfl,rfl,rfl,rfl,rfl⟩ rfl rfl rfl rfl rfl (by kernel_rfl) Tryz.func5 (by kernel_rfl)
  (of_decide_eq_true (by kernel_rfl)) (by unfold Func.isWrapper; first|(rw[if_pos (by decide +kernel)]; kernel_rfl)|(rw[if_neg (by decide +kernel)]; exact ⟨rfl,rfl⟩))
  (fun os started H enc _ F=>by rw[OpenClaim.pre_eq_preRow]; exact lifted os started H enc F)
theorem plain (f:FuncId) (fn:Func) (hf:Tryz.pinned.checked.prog.funcNamed "consistory/consistorylaw12.TableWays" = some f) (hfn:Tryz.pinned.checked.prog.funcs[f]? = some fn) :
 true=Tryz.pinned.checked.prog.looks []∧∀ (j:Nat) t,fn.params[j]? = some t→Tryz.pinned.checked.prog.wantsStandIn t=false:=by
 obtain rfl:f=5:=Option.some.inj ((show Tryz.prog.funcNamed "consistory/consistorylaw12.TableWays" = some 5 by kernel_rfl).symm.trans hf) |>.symm
 obtain rfl:fn=Tryz.f5:=(Option.some.inj (Tryz.func5.symm.trans hfn)).symm
 refine ⟨by kernel_rfl,fun j t ht=>?_⟩
 rw[Tryz.params5] at ht
 match j,ht with
 |0,ht=>
  obtain rfl:70=t:=Option.some.inj ht
  exact (show Tryz.prog.wantsStandIn 70=false by kernel_rfl)
 |1,ht=>
  obtain rfl:22=t:=Option.some.inj ht
  exact (show Tryz.prog.wantsStandIn 22=false by kernel_rfl)
 |2,ht=>
  obtain rfl:71=t:=Option.some.inj ht
  exact (show Tryz.prog.wantsStandIn 71=false by kernel_rfl)
 |3,ht=>
  obtain rfl:71=t:=Option.some.inj ht
  exact (show Tryz.prog.wantsStandIn 71=false by kernel_rfl)
 |4,ht=>
  obtain rfl:5=t:=Option.some.inj ht
  exact (show Tryz.prog.wantsStandIn 5=false by kernel_rfl)
 |k+5,ht=>simp at ht
theorem card:Rows.TableWaysCardSaid:=
 Claim7.holds_tied_plain_at .later [] _ _ _ _ said (fun _ h=>by cases h) (by kernel_rfl) (fun _ h=>by cases h) tableWays_row_tie rfl ⟨rfl,rfl⟩ (by kernel_rfl) rfl plain (by kernel_rfl)
end Go.Proofs.YtggjomdndfacgaaGreatDoor.tableWays
