/- For TableWays: AMAdd TzBase BtEd AMIns4 TzIns TzM TzM2 BtM BtCmp BtRel BtPut BtPut2 TzL1 TzL2 TzL3 TzL4 BtPut3 BtN BtN2 BtN3 BtN4 BtN5 BtOrd BtTree BtTree2 BtNew BtClone BtMem AMCut BtHand BtPutR BtPutT BtPutU BtPutV TbC BtNext BtRuns BtIdxR BtKey BtIdxA TbE TbL TbAll TzRun TzTop BtTop BtIdxC BtIdxE BtIdxF BtIdxG BtIdxH BtIdxI BtIdxJ BtU BtU2 BtU3 BtU4 BtX1 BtX2 BtW1 BtW2. -/
import Derived.Test.YtggjomdndfacgaaGreatDoorWm2
import Derived.Test.YtggjomdndfacgaaGreatDoorProg
import Derived.KernelRfl
import Derived.Deep.LoopGhost
set_option linter.unusedSectionVars false
set_option linter.unusedVariables false
set_option linter.unusedSimpArgs false
noncomputable section
namespace Go.AM
variable {P:Program}
section
variable [Tok]
variable {φ:Phi} {m:Mem} {w:World}
theorem Step.add (h:Rel P φ m w) {w':World} {x':Blk} {nb no ns:Nat} (hn:m.next<65536)
 (hheap:∀ q,q<w.heap.size→w'.heap[q]? = w.heap[q]?) (hsz:w.heap.size≤w'.heap.size) (hos:w'.os=w.os) (hou:w'.output=w.output) (htp:w'.tape=w.tape)
 (hnb:w.heap.size≤nb) (hnl:nb<w'.heap.size) (hx:BRel (fun q=>if q=m.next then some (nb,no,ns) else φ q) w' m.next x') :
 Step P φ m w (fun q=>if q=m.next then some (nb,no,ns) else φ q) ⟨m.next+1,putT m.next x' m.t⟩ w':=by
 have hb:=h.bound
 have ext:Ext' φ (fun q=>if q=m.next then some (nb,no,ns) else φ q):=by
  intro q y hq
  have:=h.dom q y hq
  show (if q=m.next then _ else _)=_
  rw[if_neg (by omega)]; exact hq
 have get:∀ q,q<65536→(⟨m.next+1,putT m.next x' m.t⟩:Mem).get q=if q=m.next then x' else m.get q:=fun q hq=>ZBw m.next q x' m.t hn hq
 have hh1:=h.dom _ _ h.handle
 have hold:∀ q,q<m.next→(⟨m.next+1,putT m.next x' m.t⟩:Mem).get q=m.get q:=fun q hq=>by
  rw[get q (by omega),if_neg (by omega)]
 have hne:∀ q b' o' s',q<m.next→(m.get q).live=true→φ q=some (b',o',s')→b'≠nb∧b'<w.heap.size:=by
  intro q b' o' s' hq hl hφq
  have h1:b'<w.heap.size:=h.heap q b' o' s' hφq (fun e=>by rw[e,h.nohandle] at hl; cases hl)
  exact ⟨by omega,h1⟩
 refine ⟨⟨hn,?_,?_,ext _ _ h.handle,?_,?_,?_,?_,fun q h1 h2=>by
  change m.next+1≤q at h1
  rw[get q h2,if_neg (by omega)]; exact h.clean q (by omega) h2,
  fun b' o' hb'=>by rw[hheap b' (h.held_lt hb')]; exact h.held b' o' hb',fun q b' o' s' hq hw hφ'=>by
   change q<m.next+1 at hq
   by_cases e:q=m.next
   · simp[e] at hφ'
     rw[← hφ'.1]
     exact h.free hnb
   · have hq':φ q=some (b',o',s'):=by simpa[e] using hφ'
     exact h.apart q b' o' s' (by omega) (by rw[hold q (by omega)] at hw; exact hw) hq',fun hs=>by rw[hold 0 h.pos]; exact h.mode hs⟩,ext,Nat.le_succ _,?_,fun q hq hl=>by rw[hold q hq] at hl; exact hl,fun q hq hl=>by rw[hold q hq] at hl; exact hl,?_,fun b' hb' _=>hheap b' hb',hsz,hos,hou,htp⟩
 · intro q y hq
   show q<m.next+1
   by_cases e:q=m.next
   · omega
   · have hq':φ q=some y:=by simpa[e] using hq
     have:=h.dom q y hq'; omega
 · intro q b' o'' s' hq hne
   by_cases e:q=m.next
   · simp[e] at hq; omega
   · have hq':φ q=some (b',o'',s'):=by simpa[e] using hq
     exact Nat.lt_of_lt_of_le (h.heap q b' o'' s' hq' hne) hsz
 · rw[hold _ hh1]; exact h.nohandle
 · intro g hg
   obtain ⟨sz,hsz⟩:=h.glob g hg
   exact ⟨sz,ext _ _ hsz⟩
 · intro q hq
   change q<m.next+1 at hq
   by_cases e:q=m.next
   · subst e; rw[get _ (by omega),if_pos rfl]; exact hx
   · have hq':q<m.next:=by omega
     rw[hold q hq']
     cases hl:(m.get q).live with
     |false=>rw[Blk.dead hl]; trivial
     |true=>
      refine ((h.blk q hq').mono ext).congr fun b' o'' s' hφ'=>?_
      have hφq:φ q=some (b',o'',s'):=by simpa[e] using hφ'
      exact hheap b' (hne q b' o'' s' hq' hl hφq).2
 · intro q q' b' o1 s1 o2 s2 hq hq' hqne hw hl h1 h2
   change q<m.next+1 at hq
   change q'<m.next+1 at hq'
   by_cases e1:q=m.next
   · by_cases e2:q'=m.next
     · omega
     · simp[e1] at h1
       simp[e2] at h2
       rw[hold q' (by omega)] at hl
       have:=hne q' _ _ _ (by omega) hl h2
       omega
   · simp[e1] at h1
     rw[hold q (by omega)] at hw
     by_cases e2:q'=m.next
     · simp[e2] at h2
       have:=hne q _ _ _ (by omega) (Blk.live_of_wr hw) h1
       omega
     · simp[e2] at h2
       rw[hold q' (by omega)] at hl
       exact h.inj q q' b' o1 s1 o2 s2 (by omega) (by omega) hqne hw hl h1 h2
 · intro q y hq
   by_cases e:q=m.next
   · right; omega
   · left; simpa[e] using hq
 · intro q b' o1 s1 h1 h2 _ h4 h5
   change q<m.next+1 at h2
   have e:q=m.next:=by omega
   simp[e] at h4
   omega
end
end Go.AM
namespace Go.AM
open Go.Proofs
def E1:Ext:=fun f=>match f with
 |68=>some .valueOf|69=>some .valType|70=>some .isNil|72=>some .typeOf|121=>some .valElem|122=>some .valSet|224=>some .compare|289=>some .kind|300=>some .assignable|301=>some .comparable|302=>some .rtElem|303=>some .implements
 |_=>none
def b00:Blk:=.cells true [.iface 219 (.agg [.ptr 2 27])]
noncomputable abbrev TZ:Program:=Tryz.prog
theorem zBt:TZ.follows .mixedOrders=true:=by kernel_rfl
theorem tz_gprog:gProg TZ=true:=by kernel_rfl
theorem ZAa:TZ.globals.size=2:=by kernel_rfl
theorem extHere {f:FuncId} {e:EX} (he:e≠.indexByte) (h:extIs TZ f=true) (h2:(TZ.funcs[f]?).bind Extern.find=some (exRow e)):ExtHere TZ f e:=by
 unfold extIs at h
 cases hf:TZ.funcs[f]? with
 |none=>rw[hf] at h; cases h
 |some fn=>
  rw[hf] at h h2
  simp only[Bool.and_eq_true,Bool.not_eq_true'] at h
  exact ⟨he,fn,hf,h.1.1,h.1.2,Option.isNone_iff_eq_none.1 h.2,h2⟩
theorem tz_ext:∀ f e,E1 f=some e→ExtHere TZ f e:=by
 intro f e h
 unfold E1 at h
 split at h
 · cases h; exact extHere (by intro h; cases h) (by kernel_rfl) (by kernel_rfl)
 · cases h; exact extHere (by intro h; cases h) (by kernel_rfl) (by kernel_rfl)
 · cases h; exact extHere (by intro h; cases h) (by kernel_rfl) (by kernel_rfl)
 · cases h; exact extHere (by intro h; cases h) (by kernel_rfl) (by kernel_rfl)
 · cases h; exact extHere (by intro h; cases h) (by kernel_rfl) (by kernel_rfl)
 · cases h; exact extHere (by intro h; cases h) (by kernel_rfl) (by kernel_rfl)
 · cases h; exact extHere (by intro h; cases h) (by kernel_rfl) (by kernel_rfl)
 · cases h; exact extHere (by intro h; cases h) (by kernel_rfl) (by kernel_rfl)
 · cases h; exact extHere (by intro h; cases h) (by kernel_rfl) (by kernel_rfl)
 · cases h; exact extHere (by intro h; cases h) (by kernel_rfl) (by kernel_rfl)
 · cases h; exact extHere (by intro h; cases h) (by kernel_rfl) (by kernel_rfl)
 · cases h; exact extHere (by intro h; cases h) (by kernel_rfl) (by kernel_rfl)
 · cases h
end Go.AM
namespace Go.AM
open Go.Proofs
variable {P:Program}
def edRun (K:KH) (f G n z mv q:Nat) (ints:List AVal) (sel:List Nat) (c:Nat) (sp:List AVal):Bool:=
 match K f (edArgs G n z c true ints mv) (edMem G (n*z) (mv*z) sp) with
 | .ok v m=>edChk G q z sel v m
 | .fail _=>false
theorem edRuns_of {K:KH} (hK:∀ T:Tok,T.strong=true→@zBb T P K) {f G n z mv q:Nat} {ints:List AVal} {sel:List Nat} (h1:edRun K f G n z mv q ints sel n []=true) (h2:∀ k,edRun K f G n z mv q ints sel (Nat.add k (Nat.succ n)) (anyL z)=true) :
 EdRuns P f G n z mv q ints sel:=by
 intro T φ w cargs c ex sp hst hcase hr hv
 have main:∀ c sp,edRun K f G n z mv q ints sel c sp=true→@Rel T P φ (edMem G (n*z) (mv*z) sp) w→@zAa T φ (edArgs G n z c true ints mv) cargs.toList→
  Ends P f cargs w fun cv w'=>∃ φ' v mf,@Step T P φ (edMem G (n*z) (mv*z) sp) w φ' mf w'∧@VRel T φ' v cv∧edChk G q z sel v mf=true:=by
  intro c sp h hr hv
  unfold edRun at h
  generalize hq:K f (edArgs G n z c true ints mv) (edMem G (n*z) (mv*z) sp)=q at h
  cases q with
  |fail c=>cases h
  |ok v m=>exact (hK T hst f _ _ v m hq φ w cargs hr hv).mono fun cv w' ⟨φ',h1,h2⟩=>⟨φ',v,m,h1,h2,h⟩
 rcases hcase with ⟨rfl,rfl,rfl⟩|⟨⟨k,rfl⟩,rfl,rfl⟩
 · exact main _ _ h1 hr hv
 · exact main _ _ (h2 k) hr hv
def XO:Stand:=fun f=>match f with
 |243=>some ⟨ovX⟩
 |246=>some ⟨ovX⟩
 |_=>none
def KO:KH:=callX TZ E1 XO 60
theorem tz243:extIs TZ 243=true:=by kernel_rfl
theorem tz243':(TZ.funcs[243]?).bind Extern.find=some (Extern.SlicesOverlaps.overlaps #[237,237] #[4]):=by kernel_rfl
theorem tz243t:(elemT (TZ.underlying 237)).map (fun e=>hasT TZ e)=some true:=by kernel_rfl
theorem tz246:extIs TZ 246=true:=by kernel_rfl
theorem tz246':(TZ.funcs[246]?).bind Extern.find=some (Extern.SlicesOverlaps.overlaps #[238,238] #[4]):=by kernel_rfl
theorem tz246t:(elemT (TZ.underlying 238)).map (fun e=>hasT TZ e)=some true:=by kernel_rfl
theorem xo_ok {T:Tok} (hst:T.strong=true):∀ f g,XO f=some g→@ZCr T TZ f g.run:=by
 intro f g h
 unfold XO at h
 split at h
 · cases h; exact ovX_ok hst tz243 tz243' tz243t
 · cases h; exact ovX_ok hst tz246 tz246' tz246t
 · cases h
theorem ko_ok (T:Tok) (hst:T.strong=true):@zBb T TZ KO:=callX_ok zBt tz_gprog tz_ext (xo_ok hst) 60
def insRun (n i c:Nat) (sp:List AVal):Bool:=edRun KO 217 2 n 2 1 (Nat.succ n) [.int .i64 (.ofNat i)] (selIns n i) c sp
def repRun (n i mv c:Nat) (sp:List AVal):Bool:=edRun KO 219 2 n 1 mv (Nat.pred (Nat.add n mv)) [.int .i64 (.ofNat i),.int .i64 (.ofNat (Nat.succ i))] (selRep n i mv) c sp
end Go.AM
namespace Go.AM
variable {P:Program}
section
def rowS (G k n:Nat):AVal:=.slice (Nat.succ G) 0 n (Nat.succ (Nat.succ k)) true 2
def argV (G:Nat):AVal:=.slice (Nat.succ (Nat.succ G)) 0 1 1 false 2
def vb1 (G k:Nat):List AVal:=[rowS G k 2,.int .i64 (.ofNat 0),argV G,.int .i64 (.ofNat 1),.int .i64 (.ofNat 1)]
def vb2 (G k:Nat):List AVal:=[argV G,.slice (Nat.succ G) 2 1 (Nat.succ k) true 2,rowS G k 2,.int .i64 (.ofNat 0),argV G,.int .i64 (.ofNat 1),.int .i64 (.ofNat 1)]
def vb3 (G k:Nat) (b:Bool):List AVal:=[.bool (not b),argV G,.slice (Nat.succ G) 2 1 (Nat.succ k) true 2,rowS G k 2,.int .i64 (.ofNat 0),argV G,.int .i64 (.ofNat 1),.int .i64 (.ofNat 1)]
def insM (G:Nat):Mem:=insMem G [.any,.any]
def callOf:Op→Option (Callee×List Operand)
 | .call c=>some (c.callee,c.args.toList)
 |_=>none
def insFin (G:Nat):R→Bool
 | .ok (.tuple [v]) m=>insChk G v m
 |_=>false
theorem results_one {fn:Func} {t:Nat} (h:fn.results.toList=[.tmp t]) (tmps:Array Value) (w:World):(results fn tmps).run P w=.ok (tmps.getD t undef) w:=by
 rw[@results_eq tok0]
 have e:fn.results=#[.tmp t]:=by rw[← Array.toList_inj]; exact h
 rw[e]
 simp[resOne]
theorem ins_room {T:Tok} {K:KH} {G:Nat} (hK:@zBb T P K) (hD:@DrawOk T P K) (hg0:0<G) (hG2:G+3≤65536) {f g:FuncId} {fn:Func} {B X Y:Code} {Ps:List Code} {ops:Array Oper} {id:Nat} {o6 o7:Oper}
 (hf:P.funcs[f]? = some fn) (hname:fn.name≠ "runtime.NumGoroutine") (hb:fn.body=some B) (hnt:fn.ntmps=95) (hres:fn.results.toList=[.tmp 6]) (hB:B=seqsC Ps (.seq (.seq (.region id ops false) X) Y))
 (hgp:Ps.all (ZBh P.globals.size)=true) (hgx:ZBh P.globals.size X=true∧ZBh P.globals.size Y=true) (hgo:ops.toList.all (ZBo P.globals.size)=true)
 (hsz:ops.size=8) (h6:ops[6]? = some o6) (h7:ops[7]? = some o7) (hop6:o6.guard=none∧o6.dst=some 67∧callOf o6.op=some (.value (.func g),[.tmp 61,.tmp 66]))
 (hov:∀ {w:World} {ab ao ac bb bo bc:Nat},ab≠bb→∀ {ca cb:Array Value} {ea eb:TypeId} {fa fb:Nat×Nat},w.heap[ab]? = some (.cells ca ea fa)→w.heap[bb]? = some (.cells cb eb fb)→¬ (fb.1≤bo∧bo<fb.2)→
  Ends P g #[.slice (some ⟨ab,ao,none⟩) 1 ac,.slice (some ⟨bb,bo,none⟩) 1 bc] w fun c w'=>(∃ t,c=.bool t)∧w'.heap=w.heap∧w'.os=w.os∧w'.output=w.output∧w'.tape=w.tape)
 {k:Nat}
 (r1:zBv P 95 K Ps ⟨true,fun _=>false,false⟩ [(0,rowS G k 1),(1,.int .i64 (.ofNat 0)),(2,argV G)] [0,1,2,7,8] (insM G)=.ok (.tuple (vb1 G k)) (insM G))
 (r2:zCg P 95 K ops (ops.toList.take 6) ([0,1,2,7,8].zip (vb1 G k)) [61,66,0,1,2,7,8] (insM G)=.ok (.tuple (vb2 G k)) (insM G))
 (r3:∀ b,zCg P 95 K ops [o7] ([67,61,66,0,1,2,7,8].zip (.bool b::vb2 G k)) [68,61,66,0,1,2,7,8] (insM G)=.ok (.tuple (vb3 G k b)) (insM G))
 (r4:∀ b,insFin G (zBv P 95 K [X,Y] ⟨false,fun _=>false,true⟩ ([68,61,66,0,1,2,7,8].zip (vb3 G k b)) [6] (insM G))=true)
 {φ:Phi} {w:World} {cargs:Array Value} (hr:@Rel T P φ (insM G) w) (hv:@zAa T φ (insArgs G (Nat.succ (Nat.succ k)) true) cargs.toList) :
 Ends P f cargs w fun cv w'=>∃ φ' v mf,@Step T P φ (insM G) w φ' mf w'∧@VRel T φ' v cv∧insChk G v mf=true:=by
 right
 refine ⟨by simp[callFunc,hf,hname,hb],?_⟩
 refine calls_of_wp hf hb ?_
 rw[hB]
 have hl3:cargs.size=3:=by have:=@zAa.length T _ _ _ hv; rw[Array.length_toList] at this; exact this
 have ha0:zBc 95 { tmps:=cargs++Array.replicate (fn.ntmps-cargs.size) undef,defers:=[] }:=⟨by simp[hl3,hnt],rfl⟩
 have hget:∀ (t:Nat) (v:AVal),(insArgs G (Nat.succ (Nat.succ k)) true)[t]? = some v→@VRel T φ v ((cargs++Array.replicate (fn.ntmps-cargs.size) undef).getD t undef):=by
  intro t v ht
  obtain ⟨c,h1,h2⟩:=@zAa.get T φ _ _ hv t v ht
  rw[Array.getElem?_toList] at h1
  have h3:t<cargs.size:=by
   rcases Nat.lt_or_ge t cargs.size with h|h
   · exact h
   · rw[Array.getElem?_eq_none h] at h1; cases h1
  rw[Array.getD_eq_getD_getElem?,Array.getElem?_append_left h3,h1]
  exact h2
 refine @ZCh P T K hK hD 95 Ps hgp _ _ _ _ _ _ r1 _ _ _ _ _ hr ha0 (by decide) ?_ ?_ (fun i h=>by cases h) (fun h=>by cases h)
 · intro p hp
   simp only[List.mem_cons,List.not_mem_nil,or_false] at hp
   rcases hp with rfl|rfl|rfl
   · exact ⟨(by decide:0<4096),hget 0 _ rfl⟩
   · exact ⟨(by decide:1<4096),hget 1 _ rfl⟩
   · exact ⟨(by decide:2<4096),hget 2 _ rfl⟩
 intro _ φ1 a1 w1 hst1 ha1 hv1
 refine wp_seq (wp_seq (wp_region ?_))
 rw[hsz]
 have hos:(ops.toList.take 6).length=6:=by simp[hsz]
 have hrange:List.range 8=List.range' 0 (ops.toList.take 6).length++[6,7]:=by rw[hos]; decide
 rw[hrange]
 refine @ZCc P T K hK 95 ops _ 0 (ops.toList.take 6) [6,7] (by simp) ?_ _ _ _ _ _ r2 _ _ _ (@Step.rel T P _ _ _ _ _ _ hst1) ha1 (by decide) (@ZAv T φ1 a1 _ _ (by decide) hv1) ?_
 · rw[List.all_eq_true] at hgo ⊢
   exact fun x hx=>hgo x (List.mem_of_mem_take hx)
 intro φ2 a2 w2 hst2 ha2 hv2
 have hr2:=@Step.rel T P _ _ _ _ _ _ hst2
 unfold wpOps
 rw[h6]
 simp only
 have hwant:Region.wanted o6 (yielded ops a2.tmps)=true:=by unfold Region.wanted; rw[hop6.1]
 rw[if_pos hwant]
 left
 obtain ⟨hop6a,hop6b,hop6c⟩:=hop6
 cases ho:o6.op<;>first|(rw[ho] at hop6c; cases hop6c; done)|skip
 rename_i cc
 rw[ho] at hop6c
 have hcal:cc.callee=.value (.func g)∧cc.args.toList=[.tmp 61,.tmp 66]:=by
  simp only[callOf,Option.some.injEq,Prod.mk.injEq] at hop6c
  exact hop6c
 have hcargs:cc.args=#[.tmp 61,.tmp 66]:=by rw[← Array.toList_inj]; exact hcal.2
 have g61:@VRel T φ2 (argV G) (a2.tmps.getD 61 undef):=by
  have:=@zAa.get T φ2 _ _ hv2 0 (argV G) rfl
  obtain ⟨c,h1,h2⟩:=this
  simp only[zCe,List.map_cons,List.getElem?_cons_zero,Option.some.injEq] at h1
  rw[h1]; exact h2
 have g66:@VRel T φ2 (.slice (Nat.succ G) 2 1 (Nat.succ k) true 2) (a2.tmps.getD 66 undef):=by
  obtain ⟨c,h1,h2⟩:=@zAa.get T φ2 _ _ hv2 1 _ rfl
  simp only[zCe,List.map_cons,List.getElem?_cons_succ,List.getElem?_cons_zero,Option.some.injEq] at h1
  rw[h1]; exact h2
 generalize hc61:a2.tmps.getD 61 undef=c61 at g61
 generalize hc66:a2.tmps.getD 66 undef=c66 at g66
 cases g61 with
 |slice _ _ _ _ _ _ vcb vco vsz vo' vcap' vφ v1 v2 v3 v4 v5=>
 cases g66 with
 |slice _ _ _ _ _ _ scb sco ssz so' scap' sφ s1 s2 s3 s4 s5=>
 have hMn:(insM G).next=G+3:=by unfold insM insMem zAe; rw[ZAt]; rfl
 have hget1:(insM G).get (G+1)=.cells false [.opq 0,.opq 1,.any,.any]:=by
  unfold insM insMem
  rw[zAu hg0 (by show G+1+2≤65536; omega) (show G+1<65536 by omega),if_pos ⟨by omega,by show G+1<G+1+2; omega⟩]
  rw[Nat.sub_self]; rfl
 have hget2:(insM G).get (G+2)=.cells true [.opq 2,.opq 3]:=by
  unfold insM insMem
  rw[zAu hg0 (by show G+1+2≤65536; omega) (show G+2<65536 by omega),if_pos ⟨by omega,by show G+2<G+1+2; omega⟩]
  rw[show G+2-(G+1)=1 by omega]; rfl
 have hBs:=@Rel.blk T P _ _ _ hr2 (G+1) (by rw[hMn]; omega)
 have hBv:=@Rel.blk T P _ _ _ hr2 (G+2) (by rw[hMn]; omega)
 rw[hget1] at hBs
 rw[hget2] at hBv
 obtain ⟨cb,co,ca,el,fz,z1,z2,z3,z4,z5,z6⟩:=hBs
 obtain ⟨vcb2,vco2,va,vel,vfz,y1,y2,y3,y4,y5,y6⟩:=hBv
 have sφ':φ2 (G+1)=some (scb,sco,ssz):=sφ
 have vφ':φ2 (G+2)=some (vcb,vco,vsz):=vφ
 rw[sφ'] at z1
 rw[vφ'] at y1
 cases z1
 cases y1
 have hneb:vcb≠scb:=fun e=>by
  subst e
  exact @Rel.inj T P _ _ _ hr2 (G+1) (G+2) vcb sco _ vco _ (by rw[hMn]; omega) (by rw[hMn]; omega) (by omega) (by rw[hget1]; rfl) (by rw[hget2]; rfl) sφ' vφ'
 have s4':=s4 (by omega)
 have hfrz:¬ (fz.1≤so'∧so'<fz.2):=by
  have z3':sco+4≤ca.size:=z3
  exact (z6 rfl so' (by omega) (.inl (by omega))).1
 refine ends_wp (cargs:=#[.slice (some ⟨vcb,vo',none⟩) 1 vcap',.slice (some ⟨scb,so',none⟩) 1 scap']) ?_ (hov hneb y2 z2 hfrz) ?_
 · simp[execOp,ho,resolve,hcal.1,hcargs,Act.eval,Deferred.ofValue,invoke,hc61,hc66]
 rintro c w3 ⟨⟨b,rfl⟩,k1,k2,k3,k4⟩
 have hr3:@Rel T P φ2 (insM G) w3:=@Rel.congr T P _ _ _ w3 hr2 k1
 rw[hop6b]
 have hv3:=@vals_put T φ2 95 a2 ha2 _ _ hv2 67 (by decide) (by decide) (.bool b) (.bool b) (@VRel.bool T φ2 b)
 have hrange2:[7]=List.range' 7 [o7].length++[]:=by rfl
 rw[hrange2]
 have h7l:ops.toList[7]? = some o7:=by rw[Array.getElem?_toList]; exact h7
 refine @ZCc P T K hK 95 ops _ 7 [o7] [] ?_ ?_ _ _ _ _ _ (r3 b) _ _ _ hr3 (zCu ha2 _ _) (by decide) (@ZAv T φ2 _ _ _ (by decide) hv3) ?_
 · show (ops.toList.drop 7).take 1=[o7]
   rw[List.take_one,List.head?_drop,h7l]; rfl
 · rw[List.all_eq_true] at hgo ⊢
   intro x hx
   rw[List.mem_singleton] at hx
   subst hx
   exact hgo _ (List.mem_of_getElem? h7l)
 intro φ4 a4 w4 hst4 ha4 hv4
 have h4:=r4 b
 generalize hq:zBv P 95 K [X,Y] ⟨false,fun _=>false,true⟩ ([68,61,66,0,1,2,7,8].zip (vb3 G k b)) [6] (insM G)=q at h4
 cases q with
 |fail c=>cases h4
 |ok v m5=>
  cases v<;>first|(cases h4; done)|skip
  rename_i l5
  match l5,h4,hq with
  | [v5],h4,hq=>
  show Code.wp P X (Exit.then (Code.wp P Y (bodyPost P fn _)) (bodyPost P fn _)) a4 w4
  refine @piece_then P T K hK hD 95 X Y hgx _ _ _ _ _ _ hq φ4 w4 a4 _ (@Step.rel T P _ _ _ _ _ _ hst4) ha4 (by decide) (@ZAv T φ4 a4 _ _ (by decide) hv4) (fun h=>by cases h) (fun i h=>by cases h) ?_
  intro _ φ5 a5 w5 hst5 ha5 hv5
  refine ⟨ha5.defers,_,results_one hres a5.tmps w5,_,rfl,φ5,v5,m5,?_,?_,h4⟩
  · exact @Step.trans T P _ _ _ _ _ _ _ _ _ (@Step.trans T P _ _ _ _ _ _ _ _ _ (@Step.trans T P _ _ _ _ _ _ _ _ _ hst1 (@Step.congr T P _ _ _ _ _ _ w3 hst2 k1 k2 k3 k4)) hst4) hst5
  · cases hv5 with
    |cons h1 h2=>exact h1
end
end Go.AM
namespace Go.AM
open Go.Proofs
def sl:Code→Code
 | .seq x _=>x
 |c=>c
def sr:Code→Code
 | .seq _ y=>y
 |c=>c
def opsOf:Code→Array Oper
 | .region _ o _=>o
 |_=>#[]
def bodyOf (P:Program) (f:Nat):Code:=((P.funcs[f]?).bind (·.body)).getD .skip
def B217:Code:=bodyOf TZ 217
def K0:KH:=callX TZ E1 (fun _=>none) 60
theorem ZBt {T:Tok}:@zBb T TZ K0:=callX_ok zBt tz_gprog tz_ext (fun f g h=>by cases h) 60
theorem k0_draw {T:Tok}:@DrawOk T TZ K0:=draw_ok zBt ZBt
theorem ins_a:(match K0 217 (insArgs 2 1 true) (insMem 2 []) with | .ok v m=>insChk 2 v m | .fail _=>false)=true:=by kernel_rfl
def P217:List Code:=[sl B217,sl (sr B217),sl (sr (sr B217)),sl (sr (sr (sr B217))),sl (sr (sr (sr (sr B217)))),sl (sr (sr (sr (sr (sr B217))))),sl (sr (sr (sr (sr (sr (sr B217)))))),sl (sr (sr (sr (sr (sr (sr (sr B217)))))))]
def R217:Code:=sr (sr (sr (sr (sr (sr (sr (sr B217)))))))
def O217:Array Oper:=opsOf (sl (sl R217))
theorem b217:B217=seqsC P217 (.seq (.seq (.region 14 O217 false) (sr (sl R217))) (sr R217)):=by kernel_rfl
theorem ins_b1 (k:Nat):zBv TZ 95 K0 P217 ⟨true,fun _=>false,false⟩ [(0,rowS 2 k 1),(1,.int .i64 (.ofNat 0)),(2,argV 2)] [0,1,2,7,8] (insM 2)=.ok (.tuple (vb1 2 k)) (insM 2):=by kernel_rfl
theorem ins_b2 (k:Nat):zCg TZ 95 K0 O217 (O217.toList.take 6) ([0,1,2,7,8].zip (vb1 2 k)) [61,66,0,1,2,7,8] (insM 2)=.ok (.tuple (vb2 2 k)) (insM 2):=by kernel_rfl
def o217_6:Oper:=(O217[6]?).getD default
def o217_7:Oper:=(O217[7]?).getD default
theorem ins_b3 (k:Nat):∀ b:Bool,zCg TZ 95 K0 O217 [o217_7] ([67,61,66,0,1,2,7,8].zip (.bool b::vb2 2 k)) [68,61,66,0,1,2,7,8] (insM 2)=.ok (.tuple (vb3 2 k b)) (insM 2)
 |true=>by kernel_rfl
 |false=>by kernel_rfl
theorem ins_b4 (k:Nat):∀ b:Bool,insFin 2 (zBv TZ 95 K0 [sr (sl R217),sr R217] ⟨false,fun _=>false,true⟩ ([68,61,66,0,1,2,7,8].zip (vb3 2 k b)) [6] (insM 2))=true
 |true=>by kernel_rfl
 |false=>by kernel_rfl
def fn217:Func:=(TZ.funcs[217]?).getD default
theorem fn217_is:TZ.funcs[217]? = some fn217:=by kernel_rfl
theorem fn217_name:(fn217.name == "runtime.NumGoroutine")=false:=by kernel_rfl
theorem fn217_body:fn217.body=some B217:=by kernel_rfl
theorem fn217_nt:fn217.ntmps=95:=by kernel_rfl
theorem fn217_res:fn217.results.toList=[.tmp 6]:=by kernel_rfl
theorem b217_g1:P217.all (ZBh TZ.globals.size)=true:=by kernel_rfl
theorem b217_g2:ZBh TZ.globals.size (sr (sl R217))=true:=by kernel_rfl
theorem b217_g3:ZBh TZ.globals.size (sr R217)=true:=by kernel_rfl
theorem o217_g:O217.toList.all (ZBo TZ.globals.size)=true:=by kernel_rfl
theorem o217_size:O217.size=8:=by kernel_rfl
theorem o217_at6:O217[6]? = some o217_6:=by kernel_rfl
theorem o217_at7:O217[7]? = some o217_7:=by kernel_rfl
theorem o217_g6:o217_6.guard=none:=by kernel_rfl
theorem o217_d6:o217_6.dst=some 67:=by kernel_rfl
theorem o217_c6:callOf o217_6.op=some (.value (.func 243),[.tmp 61,.tmp 66]):=by kernel_rfl
theorem f243:extIs TZ 243=true:=by kernel_rfl
theorem f243':(TZ.funcs[243]?).bind Extern.find=some (Extern.SlicesOverlaps.overlaps #[237,237] #[4]):=by kernel_rfl
theorem t237:(elemT (TZ.underlying 237)).map (fun e=>hasT TZ e)=some true:=by kernel_rfl
theorem ins_runs:InsRuns TZ 217 2:=by
 intro T φ w cargs c ex sp hcase hr hv
 rcases hcase with ⟨rfl,rfl,rfl⟩|⟨⟨k,rfl⟩,rfl,rfl⟩
 · have h:=ins_a
   generalize hq:K0 217 (insArgs 2 1 true) (insMem 2 [])=q at h
   cases q with
   |fail c=>cases h
   |ok v m=>exact (@ZBt T 217 _ _ v m hq φ w cargs hr hv).mono fun cv w' ⟨φ',h1,h2⟩=>⟨φ',v,m,h1,h2,h⟩
 · exact ins_room (P:=TZ) (T:=T) (K:=K0) (G:=2) (f:=217) (g:=243) (fn:=fn217) (B:=B217) (X:=sr (sl R217)) (Y:=sr R217) (Ps:=P217) (ops:=O217) (id:=14) (o6:=o217_6) (o7:=o217_7) (k:=k) ZBt k0_draw (by decide) (by decide) fn217_is (ne_of_beq_false fn217_name) fn217_body fn217_nt fn217_res b217 b217_g1 ⟨b217_g2,b217_g3⟩ o217_g o217_size o217_at6 o217_at7
    ⟨o217_g6,o217_d6,o217_c6⟩ (fun {w ab ao ac bb bo bc} hne {ca cb ea eb fa fb} hA hB hf=>call_overlaps f243 f243' t237 hne hA hB hf) (ins_b1 k) (ins_b2 k) (ins_b3 k) (ins_b4 k) hr hv
end Go.AM
namespace Go.AM
variable {P:Program}
section
def symsL:List Nat→List AVal
 | []=>[]
 |j::l=>.sym .u64 j::symsL l
def snocL {α:Type}:List α→α→List α
 | [],y=>[y]
 |x::l,y=>x::snocL l y
def entL (G:Nat):List Nat→List MEnt
 | []=>[]
 |j::l=>⟨.sym .u64 j,.slice (Nat.add (Nat.add G 11) j) 0 2 2 false 3,j⟩::entL G l
def stoT (G n:Nat):List Blk:=
 match n with
 |0=>[]
 |k+1=>.cells true (symsL (natL (Nat.succ k) 0))::valsB::iterN [] (fun l=>valsB::l) k
def idsS (G n:Nat):AVal:=
 match n with
 |0=>.nilslice
 |k+1=>.slice (Nat.add G 10) 0 (Nat.succ k) (Nat.succ k) false 1
def stoL (G n:Nat):List Blk:=
 .cells true [.slice (Nat.add G 2) 0 1 1 false 3,.slice (Nat.add G 3) 0 1 1 false 4] ::
 .cells true [.str [116],.slice (Nat.add G 4) 0 2 2 false 3,.slice (Nat.add G 5) 0 2 2 false 4] ::
 .cells false [.map (Nat.add G 6),idsS G n,.nx .u64 0,.slice (Nat.add G 7) 0 2 2 false 1] ::
 .cells true [.str [97],.int .i64 (.ofNat 2),.bool false,.str [98],.int .i64 (.ofNat 2),.bool false] ::
 .cells true [.str [105],.slice (Nat.add G 8) 0 2 2 false 1,.bool false,.bool false,.str [106],.slice (Nat.add G 9) 0 1 1 false 1,.bool false,.bool false] ::
 .map (entL G (natL n 0)) n ::
 .cells true [.any,.any] ::
 .cells true [.int .i64 (.ofNat 0),.int .i64 (.ofNat 1)] ::
 .cells true [.int .i64 (.ofNat 1)] ::
 stoT G n
def stoM (G g0:Nat) (b0:Blk) (n:Nat):Mem:=zAe G g0 b0 (stoL G n)
def nmOf:AVal→Nat
 | .slice b _ _ _ _ _=>b
 | .ptr b _=>b
 | .map b=>b
 |_=>0
def zBq (m:Mem) (b i:Nat):AVal:=
 match m.get b with
 | .cells _ cs=>onL .bad (fun x _=>x) (ZAe i cs)
 |_=>.bad
def valNs:List MEnt→List Nat
 | []=>[]
 |e::l=>nmOf e.val::valNs l
def entNs (m:Mem) (b:Nat):List Nat:=
 match m.get b with
 | .map es _=>valNs es
 |_=>[]
def stoNT (m:Mem) (a2 a5 n:Nat):List Nat:=
 match n with
 |0=>[]
 |_+1=>nmOf (zBq m a2 1)::entNs m a5
def stoN5 (m:Mem) (a0 a1 a2 a3 a4 a5 n:Nat):List Nat:=
 a0::a1::a2::a3::a4::a5::nmOf (zBq m a2 3)::nmOf (zBq m a4 1)::nmOf (zBq m a4 5)::stoNT m a2 a5 n
def stoN2 (m:Mem) (a0 a1 a2 n:Nat):List Nat:=stoN5 m a0 a1 a2 (nmOf (zBq m a1 1)) (nmOf (zBq m a1 2)) (nmOf (zBq m a2 0)) n
def stoNs (m:Mem) (a0 n:Nat):List Nat:=stoN2 m a0 (nmOf (zBq m a0 0)) (nmOf (zBq m a0 1)) n
def stoTs (n b:Nat):List AVal:=
 match b with
 |0=>symsL (natL n 0)
 |_+1=>snocL (symsL (natL (Nat.pred n) 0)) (.nx .u64 0)
def stoMap (G:Nat) (m:Mem) (a0 n b:Nat):Map:=⟨G,stoNs m a0 n,stoTs n b,fun d=>.nx .u64 (Nat.add d b),fun _=>.bad⟩
def stoEnd (G g0:Nat) (b0:Blk) (n b:Nat) (σ:Map) (x3 x4:AVal) (m:Mem):Bool:=
 and (and (absN σ 2 (.ptr (Nat.succ G) 0) x3) (absN σ 2 (.nx .u64 0) x4)) (and (and (incrB (snocL σ.ts (.nx .u64 b))) (Nat.beq (lenL σ.ts) n)) (zAp σ g0 b0 (stoL G n) m))
def stoChk (G g0:Nat) (b0:Blk) (n b:Nat) (v:AVal) (m:Mem):Bool:=
 match v with
 | .tuple l=>on4 l fun x0 x3 x4 x5=>and (and (isOpq 0 x0) (isOpq 1 x5)) (stoEnd G g0 b0 n b (stoMap G m (nmOf x3) n b) x3 x4 m)
 |_=>false
end
end Go.AM
namespace Go.AM
variable {P:Program}
theorem absMem_wr {σ:Map} {g0:Nat} {b0:Blk} {l:List Blk} {m:Mem} (hc:zAp σ g0 b0 l m=true) {p:Nat} (hp:p<(zAe σ.G g0 b0 l).next) (hw:((zAe σ.G g0 b0 l).get p).wr=true) :
 p<σ.top∧σ.nm p<m.next∧(m.get (σ.nm p)).wr=true:=by
 unfold zAp at hc
 simp only[Bool.and_eq_true,zAd] at hc
 obtain ⟨⟨⟨c1,c2⟩,c3,c4⟩,c5,c6⟩:=hc
 obtain ⟨hlen,hblk⟩:=chkL_ok c6
 rw[zBd] at c2
 have hnx:(zAe σ.G g0 b0 l).next=σ.top:=by
  unfold zAe
  rw[ZAt,zBd,hlen]
 rw[hnx] at hp
 have hp':=hp
 rw[zBd] at hp
 rw[zAu c1 (by omega) (by omega)] at hw
 split at hw
 · rename_i h1
   have h3:p-(σ.G+1)<l.length:=by omega
   have h4:p-(σ.G+1)<σ.ns.length:=by omega
   rw[List.getElem?_eq_getElem h3] at hw
   obtain ⟨g1,g2,g3⟩:=hblk _ _ _ (List.getElem?_eq_getElem h3) (List.getElem?_eq_getElem h4)
   refine ⟨hp',?_⟩
   rw[nm_high (by omega),List.getElem?_eq_getElem h4]
   exact ⟨g2,(absB_wr g3).1 hw⟩
 · split at hw
   · cases b0 with
     |cells ro cs=>cases ro with
      |true=>cases hw
      |false=>cases c3
     |none=>cases hw
     |map es k=>cases c3
     |iter s k=>cases c3
   · cases hw
end Go.AM
namespace Go.AM
variable {P:Program}
section
def rowT (kb vb:Nat):List Nat→List AVal
 | []=>[]
 |j::l=>.opq (Nat.add kb j)::.opq (Nat.add vb j)::rowT kb vb l
def rowV (A:Nat):Nat→AVal
 |0=>.nilslice
 |k+1=>.slice A 0 (Nat.succ k) (Nat.succ k) false 2
def leafB (f pl:AVal):Blk:=.cells true [f,pl,.nilslice]
def oneOr (s:Nat) (b:Blk):List Blk:=
 match s with
 |0=>[]
 |_+1=>[b]
def treeL (G s:Nat):List Blk:=leafB (.opq 600) (rowV (Nat.add G 2) s)::oneOr s (.cells true (rowT 100 200 (natL s 0)))
def ptrsL:Nat→Nat→List AVal
 |0,_=>[]
 |n+1,a=>.ptr a 0::ptrsL n (Nat.succ a)
def kidB (G m c s s2 i:Nat):Blk:=
 zAc (leafB (.opq (Nat.add 400 i)) (rowV (Nat.add (Nat.add G 3) m) s))
  (zAc (leafB (.opq (Nat.add 400 i)) (rowV (Nat.add (Nat.add G 4) m) s2)) (leafB (.opq (Nat.add 400 i)) (.opq (Nat.add 500 i))) (and (Nat.beq i (Nat.succ c)) (Nat.ble 1 s2)))
  (Nat.beq i c)
def kidsL (G m c s s2:Nat):List Nat→List Blk
 | []=>[]
 |i::l=>kidB G m c s s2 i::kidsL G m c s s2 l
def ZCa:List Blk→List Blk→List Blk
 | [],y=>y
 |x::l,y=>x::ZCa l y
def treeN (G m c s s2:Nat):List Blk:=
 .cells true [.opq 600,.nilslice,.slice (Nat.add G 2) 0 m m false 1]::.cells true (ptrsL m (Nat.add G 3)) ::
  ZCa (kidsL G m c s s2 (natL m 0)) (.cells true (rowT 100 200 (natL s 0))::oneOr s2 (.cells true (rowT 300 350 (natL s2 0))))
def tokSide (m c s s2 p i:Nat):Option Bool:=
 zAc none (zAc (zAc (some true) (zAc (some false) none (Nat.ble (Nat.succ i) (Nat.add 100 s))) (Nat.ble (Nat.succ i) (Nat.add 100 p)))
  (zAc none (zAc (zAc (some false) none (Nat.ble (Nat.succ i) (Nat.add 300 s2)))
   (zAc none (zAc (zAc (some true) (some false) (Nat.ble i (Nat.add 400 c))) none (Nat.ble (Nat.succ i) (Nat.add 400 m))) (Nat.ble (Nat.succ i) 400))
   (Nat.ble (Nat.succ i) 350)) (Nat.ble (Nat.succ i) 300)) (Nat.ble (Nat.succ i) 200)) (Nat.ble (Nat.succ i) 100)
def cmpX (m c s s2 p:Nat) (args:List AVal) (mem:Mem):R:=
 arg2 args fun a b=>match a,b with
  | .opq i,.opq 0=>onB3 (.fail 180) (fun t=>zAc (.ok (.int .i64 (.negSucc 0)) mem) (.ok (.int .i64 (.ofNat 1)) mem) t) (tokSide m c s s2 p i)
  |_,_=>.fail 181
def insR:Nat→List AVal→List AVal
 |0,l=>.opq 0::.opq 1::l
 |p+1,a::b::l=>a::b::insR p l
 |_+1,l=>l
def keyAt:Nat→List AVal→AVal
 |0,a::_=>a
 |j+1,_::_::l=>keyAt j l
 |_,_=>.bad
def newR (s p:Nat):List AVal:=insR p (rowT 100 200 (natL s 0))
def ZAn (A:Nat) (f:AVal) (s p:Nat):List Blk:=
 zAc [leafB f (.slice A 0 (Nat.succ s) (Nat.succ s) false 2)]
  [leafB f (.slice A 0 8 8 false 2),leafB (keyAt 8 (newR s p)) (.slice A 16 9 9 false 2)] (Nat.ble s 15)
def zCb (s:Nat):Nat:=zAc 1 2 (Nat.ble s 15)
def endL (G s p:Nat):List Blk:=
 .cells true (ptrsL (zCb s) (Nat.add G 2))::ZCa (ZAn (Nat.add (Nat.add G 2) (zCb s)) (.opq 600) s p) [.cells true (newR s p)]
def farB (i:Nat):Blk:=leafB (.opq (Nat.add 400 i)) (.opq (Nat.add 500 i))
def farL:List Nat→List Blk
 | []=>[]
 |i::l=>farB i::farL l
def endM (m s:Nat):Nat:=Nat.add (Nat.pred m) (zCb s)
def endN (G m c s p:Nat):List Blk:=
 .cells true [.ptr (Nat.add G 2) 0]::.cells true [.opq 600,.nilslice,.slice (Nat.add G 3) 0 (endM m s) (endM m s) false 1]::.cells true (ptrsL (endM m s) (Nat.add G 4)) ::
  ZCa (farL (natL c 0)) (ZCa (ZAn (Nat.add (Nat.add G 4) (endM m s)) (.opq (Nat.add 400 c)) s p) (ZCa (farL (natL (Nat.sub m (Nat.succ c)) (Nat.succ c))) [.cells true (newR s p)]))
def ptrNs:List AVal→List Nat
 | []=>[]
 |v::l=>nmOf v::ptrNs l
def cellsN (m:Mem) (b n:Nat):List AVal:=
 match m.get b with
 | .cells _ cs=>zBl n cs
 |_=>[]
def kidNs (m:Mem) (b n:Nat):List Nat:=ptrNs (cellsN m b n)
def nthN:Nat→List Nat→Nat
 |0,a::_=>a
 |j+1,_::l=>nthN j l
 |_,[]=>0
def endNsL (mem:Mem) (R s:Nat):List Nat:=(fun ks=>R::snocL ks (nmOf (zBq mem (nthN 0 ks) 1))) (kidNs mem R (zCb s))
def endNsN (mem:Mem) (R m c s:Nat):List Nat:=(fun rt=>(fun ch=>(fun ks=>R::rt::ch::snocL ks (nmOf (zBq mem (nthN c ks) 1))) (kidNs mem ch (endM m s))) (nmOf (zBq mem rt 2))) (nmOf (zBq mem R 0))
def zAx (G:Nat) (ns:List Nat):Map:=⟨G,ns,[],fun _=>.bad,fun i=>.opq i⟩
def putArgs (G:Nat):List AVal:=[.ptr (Nat.succ G) 0,.agg [.opq 0,.opq 1]]
def putChk (σ:Map) (g0:Nat) (b0:Blk) (n:Nat) (E:List Blk) (x:AVal) (t:Bool) (m:Mem):Bool:=
 and t (and (absN σ 2 (.slice (Nat.succ σ.G) 0 n n false 1) x) (zAp σ g0 b0 E m))
def putLRun (K:KH) (f G g0:Nat) (b0:Blk) (s p:Nat):Bool:=
 match K f (putArgs G) (zAe G g0 b0 (treeL G s)) with
 | .ok (.tuple [x,.bool t]) m=>putChk (zAx G (endNsL m (nmOf x) s)) g0 b0 (zCb s) (endL G s p) x t m
 |_=>false
def putNRun (K:KH) (f G g0:Nat) (b0:Blk) (m c s p:Nat):Bool:=
 match K f (putArgs G) (zAe G g0 b0 (treeN G m c s 0)) with
 | .ok (.tuple [x,.bool t]) mf=>putChk (zAx G (endNsN mf (nmOf x) m c s)) g0 b0 1 (endN G m c s p) x t mf
 |_=>false
def nextArgs (G:Nat):List AVal:=[.ptr (Nat.succ G) 0,.opq 0,.bool false]
def pairChk (k v:Nat) (ok:Bool):R→Bool
 | .ok (.tuple [.agg [a,b],.bool t]) _=>zAc (and t (and (aeqN 2 a (.opq k)) (aeqN 2 b (.opq v)))) (not t) ok
 |_=>false
def nextLRun (K:KH) (f G g0:Nat) (b0:Blk) (s p:Nat):Bool:=pairChk (Nat.add 100 p) (Nat.add 200 p) (Nat.ble (Nat.succ p) s) (K f (nextArgs G) (zAe G g0 b0 (treeL G s)))
def nextNRun (K:KH) (f G g0:Nat) (b0:Blk) (m c s s2 p:Nat):Bool:=
 pairChk (zAc (Nat.add 100 p) 300 (Nat.ble (Nat.succ p) s)) (zAc (Nat.add 200 p) 350 (Nat.ble (Nat.succ p) s)) (or (Nat.ble (Nat.succ p) s) (Nat.ble 1 s2)) (K f (nextArgs G) (zAe G g0 b0 (treeN G m c s s2)))
end
end Go.AM
namespace Go.AM
variable {P:Program}
open Go.Extern
def zAy (H:Nat→Option Obj) (v:Value) (bs:List UInt8):Prop:=
 v=.slice none 0 0∧bs=[]∨∃ b o cap c el fz,v=.slice (some ⟨b,o,none⟩) bs.length cap∧H b=some (.cells c el fz)∧(c.toList.drop o).take bs.length=bs.map fun x=>.int .u8 (x.toNat:Int)
def zAk (w:World):Nat→Option Obj:=fun b=>w.heap[b]?
theorem zAy.mono {H H':Nat→Option Obj} {v:Value} {bs:List UInt8} (h:zAy H v bs) (hH:∀ b o,H b=some o→H' b=some o):zAy H' v bs:=by
 rcases h with h|⟨b,o,cap,c,el,fz,h1,h2,h3⟩
 · exact .inl h
 · exact .inr ⟨b,o,cap,c,el,fz,h1,hH _ _ h2,h3⟩
theorem zAy.cell {H:Nat→Option Obj} {v:Value} {bs:List UInt8} (h:zAy H v bs):v.oneCell'=true:=by
 rcases h with ⟨rfl,_⟩|⟨b,o,cap,c,el,fz,rfl,_⟩<;>rfl
theorem u8of_byte (x:UInt8):u8of (.int .u8 (x.toNat:Int))=x:=by
 have h1:=@u8of_toNat tok0 (x.toNat:Int) (Int.natCast_nonneg _) (by have:=x.toNat_lt; omega)
 rw[← UInt8.toNat_inj]
 omega
theorem bytesOf_at {w:World} {v:Value} {bs:List UInt8} (h:zAy (zAk w) v bs):(Bytes.bytesOf v).run P w=.ok (bmk bs) w:=by
 rcases h with ⟨rfl,rfl⟩|⟨b,o,cap,c,el,fz,rfl,h2,h3⟩
 · rfl
 · show (Bytes.loadBytes ⟨b,o,none⟩ bs.length .empty).run P w=_
   have h2':w.heap[b]? = some (.cells c el fz):=h2
   have:=@loadBytes_run tok0 P w b ((c.toList.drop o).take bs.length) o .empty (fun j v hj=>by
    rw[List.getElem?_take] at hj
    split at hj
    · rw[List.getElem?_drop] at hj
      simp only[World.cell?,h2',Option.isSome_none,Bool.false_eq_true,if_false]
      rw[← Array.getElem?_toList]; exact hj
    · cases hj) (fun v hv=>by
    rw[h3] at hv
    obtain ⟨x,_,rfl⟩:=List.mem_map.1 hv
    exact ⟨_,rfl⟩)
   rw[h3] at this
   rw[List.length_map] at this
   rw[this]
   rw[List.map_map]
   have e:bs.map (u8of ∘ fun x=>Value.int .u8 (x.toNat:Int))=bs:=by
    have:(u8of ∘ fun (x:UInt8)=>Value.int .u8 (x.toNat:Int))=id:=funext fun x=>u8of_byte x
    rw[this,List.map_id]
   rw[e]
   rw[show ByteArray.empty.data=#[] from rfl,Array.empty_append]
   rfl
def CmpT (T:Tok) (m c s s2 p:Nat):Prop:=∀ i t,tokSide m c s s2 p i=some t→∃ bs kb,zAy T.hold (T.val i) bs∧zAy T.hold (T.val 0) kb∧lexC bs kb=if t then -1 else 1
theorem cmpX_ok {T:Tok} {m c s s2 p:Nat} (hT:CmpT T m c s s2 p) {f:FuncId} (hf:ExtHere P f .compare):@ZCr T P f (cmpX m c s s2 p):=by
 intro args mem v m' h φ w cargs hr hv
 obtain ⟨a,b,rfl,h1⟩:=arg2_ok h
 split at h1
 · rename_i i
   obtain ⟨t,ht,h2⟩:∃ t,tokSide m c s s2 p i=some t∧zAc (R.ok (.int .i64 (.negSucc 0)) mem) (.ok (.int .i64 (.ofNat 1)) mem) t=.ok v m':=by
    cases ht:tokSide m c s s2 p i with
    |none=>rw[ht] at h1; cases h1
    |some t=>rw[ht] at h1; exact ⟨t,rfl,h1⟩
   obtain ⟨bs,kb,g1,g2,g3⟩:=hT i t ht
   obtain ⟨x,y,hc,hx,hy⟩:=vs2 hv
   have hcargs:cargs=#[x,y]:=hc
   subst hcargs
   cases hx
   cases hy
   have hH:∀ b o,T.hold b=some o→zAk w b=some o:=fun b o hb=>@Rel.held T P φ mem w hr b o hb
   have e1:=bytesOf_at (P:=P) (g1.mono hH)
   have e2:=bytesOf_at (P:=P) (g2.mono hH)
   obtain ⟨hne,fn,k1,k2,k3,k4,k5⟩:=hf
   left
   refine ⟨goInt (lexC bs kb),w,?_,φ,?_,?_⟩
   · rw[run_callFunc_extern k1 k2 k3 k4 k5]
     show (((Bytes.bytesOf (T.val i) >>= fun a=>Bytes.bytesOf (T.val 0) >>= fun b=>pure (goInt (BytealgCompare.cmp a b))):Sem Value).run P w).andThen _=_
     rw[Sem.run_bind,e1,Result.andThen_ok,Sem.run_bind,e2,Result.andThen_ok,Sem.run_pure,cmp_lex]
     rfl
   · cases t<;>· cases h2; exact @Step.refl T P φ mem w hr
   · rw[g3]
     cases t
     · cases h2; exact @VRel.int T φ .i64 1
     · cases h2; exact @VRel.int T φ .i64 (-1)
 · cases h1
end Go.AM
namespace Go.AM
variable {P:Program}
abbrev Img:=Nat×Nat×Nat
abbrev Heap:=Nat→Option Obj
def In (H:Heap) (w:World):Prop:=∀ b o,H b=some o→w.heap[b]? = some o
def zAi (H:Heap) (x:Img) (cs:List Value):Prop:=∃ c el fz,H x.1=some (.cells c el fz)∧x.2.2=c.size∧x.2.1+cs.length≤c.size∧(c.toList.drop x.2.1).take cs.length=cs
theorem zAi.lt {H:Heap} {w:World} (hH:In H w) {x:Img} {cs:List Value} (h:zAi H x cs):x.1<w.heap.size:=by
 obtain ⟨c,el,fz,h1,_⟩:=h
 exact @ZAq tok0 w x.1 _ (hH _ _ h1)
theorem zAi.mono {H H':Heap} {x:Img} {cs:List Value} (h:zAi H x cs) (hw:∀ b o,H b=some o→H' b=some o):zAi H' x cs:=by
 obtain ⟨c,el,fz,h1,h2⟩:=h
 exact ⟨c,el,fz,hw _ _ h1,h2⟩
theorem zAi.img {H:Heap} {w:World} (hH:In H w) {x:Img} {cs:List Value} (h:zAi H x cs):w.heap[x.1]? = H x.1:=by
 obtain ⟨c,el,fz,h1,_⟩:=h
 rw[h1]; exact hH _ _ h1
def ptrV (x:Img):Value:=.pointer (some ⟨x.1,x.2.1,none⟩)
def nilS:Value:=.slice none 0 0
def ZAk (H:Heap) (z:Nat) (pl:Value) (n:Nat) (vs:List Value):Prop:=
 n=0∧vs=[]∧pl=nilS∨∃ (x:Img) (cap:Nat),0<n∧vs.length=n*z∧pl=.slice (some ⟨x.1,x.2.1,none⟩) n cap∧n≤cap∧x.2.1+cap*z≤x.2.2∧zAi H x vs
theorem ZAk.mono {H H':Heap} {z n:Nat} {pl:Value} {vs:List Value} (h:ZAk H z pl n vs) (hw:∀ b o,H b=some o→H' b=some o):ZAk H' z pl n vs:=by
 rcases h with h|⟨x,cap,h1,h2,h3,h4,h5,h6⟩
 · exact .inl h
 · exact .inr ⟨x,cap,h1,h2,h3,h4,h5,h6.mono hw⟩
def ZAh (G:Nat) (imgs:List Img):Phi:=fun p=>if p<G then some (p,0,0) else if p=G then some (G,0,0) else imgs[p-(G+1)]?
theorem ZBi {G:Nat} {imgs:List Img} (i:Nat):ZAh G imgs (G+1+i)=imgs[i]?:=by
 unfold ZAh
 rw[if_neg (by omega),if_neg (by omega),show G+1+i-(G+1)=i by omega]
theorem mkRel {T:Tok} {G:Nat} (hG:P.globals.size=G) (h0:0<G) {w:World} (hgs:G≤w.heap.size) {l:List Blk} {imgs:List Img} (hl:l.length=imgs.length) (hb:G+1+l.length≤65536) (hro:∀ b,b∈l→b.wr=false)
 (hlt:∀ x,x∈imgs→x.1<w.heap.size) (hB:∀ i b,l[i]? = some b→@BRel T (ZAh G imgs) w (G+1+i) b) (hheld:∀ b o,T.hold b=some o→w.heap[b]? = some o):@Rel T P (ZAh G imgs) (zAe G 0 .none l) w:=by
 have hn:(zAe G 0 .none l).next=G+1+l.length:=ZAt l _
 have get:∀ p,p<65536→(zAe G 0 .none l).get p=if G+1≤p∧p<G+1+l.length then (l[p-(G+1)]?).getD .none else if p=0 then .none else .none:=fun p hp=>zAu h0 hb hp
 have hdead:∀ p,p<65536→((zAe G 0 .none l).get p).wr=true→False:=by
  intro p hp hw
  rw[get p hp] at hw
  split at hw
  · rename_i h1
    have h2:p-(G+1)<l.length:=by omega
    rw[List.getElem?_eq_getElem h2] at hw
    have:=hro _ (List.getElem_mem h2)
    rw[Option.getD_some,this] at hw; cases hw
  · split at hw<;>cases hw
 refine @Rel.mk T P _ _ _ (by rw[hn]; omega) ?_ ?_ ?_ ?_ ?_ ?_ ?_ ?_ hheld (fun p b o s hp hw _=>(hdead p (by rw[hn] at hp; omega) hw).elim) (fun _=>by
  rw[get 0 (by decide),if_neg (by omega),if_pos rfl]; rfl)
 · intro p x hp
   rw[hn]
   unfold ZAh at hp
   split at hp
   · omega
   · split at hp
     · omega
     · have:p-(G+1)<imgs.length:=by
        rcases Nat.lt_or_ge (p-(G+1)) imgs.length with h|h
        · exact h
        · rw[List.getElem?_eq_none h] at hp; cases hp
       omega
 · intro p b o s hp hne
   rw[hG] at hne
   unfold ZAh at hp
   split at hp
   · cases hp; omega
   · first
      |exact hlt _ (List.mem_of_getElem? hp)
      |(rw[if_neg hne] at hp; exact hlt _ (List.mem_of_getElem? hp))
 · rw[hG]
   unfold ZAh
   rw[if_neg (by omega),if_pos rfl]
 · rw[hG,get G (by omega),if_neg (by omega)]
   split<;>rfl
 · intro g hg
   rw[hG] at hg
   exact ⟨0,by unfold ZAh; rw[if_pos hg]⟩
 · intro p hp
   rw[hn] at hp
   rw[get p (by omega)]
   split
   · rename_i h1
     have h2:p-(G+1)<l.length:=by omega
     rw[List.getElem?_eq_getElem h2]
     have:=hB (p-(G+1)) _ (List.getElem?_eq_getElem h2)
     rwa [show G+1+(p-(G+1))=p by omega] at this
   · split<;>trivial
 · intro p q b o s o' s' hp _ _ hw _ _ _
   exact hdead p (by rw[hn] at hp; omega) hw
 · intro p hp hlt'
   rw[hn] at hp
   rw[get p hlt',if_neg (by omega)]
   split<;>rfl
theorem zBy {T:Tok} {φ:Phi} {H:Heap} {w:World} (hH:In H w) {p:Nat} {x:Img} {cs:List AVal} {vs:List Value} (h:zAi H x vs) (hp:φ p=some x) (hv:@zAa T φ cs vs) (hc:∀ v,v∈cs→v.isCell=true):@BRel T φ w p (.cells true cs):=by
 obtain ⟨c,el,fz,h1,h2,h3,h4⟩:=h
 have hl:=@zAa.length T φ _ _ hv
 refine ⟨x.1,x.2.1,c,el,fz,by rw[hp,← h2],hH _ _ h1,by omega,?_,hc,fun h=>by cases h⟩
 rw[← hl,h4]; exact hv
def Tells (φ:Phi) (m:Mem) (H:Heap) (w:World):Prop:=∀ p x,φ p=some x→(m.get p).live=true→w.heap[x.1]? = H x.1
theorem tells_mk {G:Nat} (h0:0<G) {l:List Blk} {imgs:List Img} (hb:G+1+l.length≤65536) {H:Heap} {w:World} (h:∀ x,x∈imgs→w.heap[x.1]? = H x.1):Tells (ZAh G imgs) (zAe G 0 .none l) H w:=by
 intro p x hp hlive
 unfold ZAh at hp
 have dead:p≤G→((zAe G 0 .none l).get p).live=true→False:=by
  intro hpG hl
  rw[zAu h0 hb (by omega),if_neg (by omega)] at hl
  split at hl<;>cases hl
 split at hp
 · exact (dead (by omega) hlive).elim
 · split at hp
   · exact (dead (by omega) hlive).elim
   · exact h x (List.mem_of_getElem? hp)
theorem ZBd {T:Tok} {m:Mem} {φ:Phi} {H:Heap} {w:World} (hI:Tells φ m H w) {p:Nat} {ro:Bool} {cs:List AVal} (hr:@Rel T P φ m w) (hp:p<m.next) (hg:m.get p=.cells ro cs):∃ x vs,φ p=some x∧zAi H x vs∧@zAa T φ cs vs:=by
 have:=@Rel.blk T P φ m w hr p hp
 rw[hg] at this
 obtain ⟨cb,co,c,el,fz,h1,h2,h3,h4,_⟩:=this
 refine ⟨(cb,co,c.size),_,h1,⟨c,el,fz,(hI _ _ h1 (by rw[hg]; rfl)).symm.trans h2,rfl,?_,?_⟩,h4⟩
 · have:=@zAa.length T φ _ _ h4
   show co+_≤_
   omega
 · have:=@zAa.length T φ _ _ h4
   rw[this]
def upd (H:Heap) (w w':World):Heap:=fun b=>if b<w.heap.size then H b else w'.heap[b]?
theorem upd_mono {H:Heap} {w w':World} (hH:In H w):∀ b o,H b=some o→upd H w w' b=some o:=fun b o h=>by
 unfold upd
 rw[if_pos (@ZAq tok0 w b _ (hH _ _ h))]; exact h
def flat (ps:List (Value×Value)):List Value:=ps.flatMap fun p=>[p.1,p.2]
theorem flat_len (ps:List (Value×Value)):(flat ps).length=ps.length*2:=by
 induction ps with
 |nil=>rfl
 |cons p ps ih=>show (flat ps).length+2=_; rw[ih,List.length_cons]; omega
theorem rowT_rel {T:Tok} {φ:Phi} {kb vb:Nat}:∀ (ps:List (Value×Value)) (k:Nat),(∀ j p,ps[j]? = some p→T.val (kb+(k+j))=p.1∧T.val (vb+(k+j))=p.2)→@zAa T φ (rowT kb vb (natL ps.length k)) (flat ps)
 | [],_,_=>@zAa.nil T φ
 |p::ps,k,h=>by
  obtain ⟨h1,h2⟩:=h 0 p rfl
  have ih:=rowT_rel (T:=T) (φ:=φ) (kb:=kb) (vb:=vb) ps (k+1) fun j q hq=>by
   have:=h (j+1) q (by rw[List.getElem?_cons_succ]; exact hq)
   rwa [show k+(j+1)=k+1+j by omega] at this
  show @zAa T φ (.opq (kb+k)::.opq (vb+k)::rowT kb vb (natL ps.length (k+1))) (p.1::p.2::flat ps)
  refine @zAa.cons T φ _ _ _ _ ?_ (@zAa.cons T φ _ _ _ _ ?_ ih)
  · rw[← h1]; exact @VRel.opq T φ (kb+k)
  · rw[← h2]; exact @VRel.opq T φ (vb+k)
theorem rowT_cell {kb vb:Nat}:∀ {l:List Nat} {v:AVal},v∈rowT kb vb l→v.isCell=true
 | [],_,h=>by cases h
 |j::l,v,h=>by
  rcases List.mem_cons.1 h with rfl|h
  · rfl
  · rcases List.mem_cons.1 h with rfl|h
    · rfl
    · exact rowT_cell h
theorem rowV_rel {T:Tok} {φ:Phi} {H:Heap} {A n:Nat} {pl:Value} {vs:List Value} (h:ZAk H 2 pl n vs) (hx:∀ (x:Img) (cap:Nat),pl=.slice (some ⟨x.1,x.2.1,none⟩) n cap→zAi H x vs→φ A=some x):@VRel T φ (rowV A n) pl:=by
 rcases h with ⟨rfl,_,rfl⟩|⟨x,cap,h1,h2,rfl,h4,h5,h6⟩
 · exact @VRel.nilslice T φ
 · cases n with
   |zero=>omega
   |succ n=>exact @VRel.slice T φ A 0 (n+1) (n+1) false 2 x.1 x.2.1 x.2.2 x.2.1 cap (hx x cap rfl h6) (Nat.le_refl _) h4 (fun h=>by cases h) (fun _=>rfl) h5
end Go.AM
namespace Go.AM
variable {P:Program}
def LeafAt (H:Heap) (x:Img) (f:Value) (ps:List (Value×Value)):Prop:=∃ pl,zAi H x [f,pl,nilS]∧ZAk H 2 pl ps.length (flat ps)
theorem LeafAt.mono {H H':Heap} {x:Img} {f:Value} {ps:List (Value×Value)} (h:LeafAt H x f ps) (hw:∀ b o,H b=some o→H' b=some o):LeafAt H' x f ps:=by
 obtain ⟨pl,h1,h2⟩:=h
 exact ⟨pl,h1.mono hw,h2.mono hw⟩
theorem relL {T:Tok} {G:Nat} (hG:P.globals.size=G) (h0:0<G) (hGb:G≤60000) {w:World} (hgs:G≤w.heap.size) {H:Heap} (hH:In H w) {x:Img} {f:Value} {ps:List (Value×Value)} (h:LeafAt H x f ps) (hf:T.val 600=f)
 (hv:∀ j p,ps[j]? = some p→T.val (100+j)=p.1∧T.val (200+j)=p.2) (hheld:∀ b o,T.hold b=some o→w.heap[b]? = some o) :
 ∃ φ,@Rel T P φ (zAe G 0 .none (treeL G ps.length)) w∧Tells φ (zAe G 0 .none (treeL G ps.length)) H w∧φ (G+1)=some x:=by
 obtain ⟨pl,h1,h2⟩:=h
 have hrow:=fun φ=>rowT_rel (T:=T) (φ:=φ) (kb:=100) (vb:=200) ps 0 fun j p hj=>by rw[Nat.zero_add]; exact hv j p hj
 have leaf:∀ φ,φ (G+1)=some x→(∀ (y:Img) (cap:Nat),pl=.slice (some ⟨y.1,y.2.1,none⟩) ps.length cap→zAi H y (flat ps)→φ (G+2)=some y)→@BRel T φ w (G+1) (leafB (.opq 600) (rowV (G+2) ps.length)):=by
  intro φ hφ hy
  refine zBy hH h1 hφ (@zAa.cons T φ _ _ _ _ (by rw[← hf]; exact @VRel.opq T φ 600) (@zAa.cons T φ _ _ _ _ (rowV_rel h2 hy) (@zAa.cons T φ _ _ _ _ (@VRel.nilslice T φ) (@zAa.nil T φ)))) ?_
  intro v hv
  simp only[List.mem_cons,List.not_mem_nil,or_false] at hv
  rcases hv with rfl|rfl|rfl
  · rfl
  · cases ps.length<;>rfl
  · rfl
 rcases h2 with ⟨hn,hfl,hpl⟩|⟨y,cap,k1,k2,k3,k4,k5,k6⟩
 · refine ⟨ZAh G [x],?_,tells_mk h0 (by rw[hn]; show G+1+1≤_; omega) (fun z hz=>by rw[List.mem_singleton] at hz; subst hz; exact h1.img hH),by rw[ZBi (i:=0)]; rfl⟩
   have hl:treeL G ps.length=[leafB (.opq 600) (rowV (G+2) ps.length)]:=by rw[hn]; rfl
   rw[hl]
   refine mkRel hG h0 hgs rfl (by show G+1+1≤_; omega) (fun b hb=>by rw[List.mem_singleton] at hb; subst hb; rfl) (fun z hz=>by rw[List.mem_singleton] at hz; subst hz; exact h1.lt hH) (fun i b hb=>?_) hheld
   match i,hb with
   |0,hb=>
    simp only[List.getElem?_cons_zero,Option.some.injEq] at hb
    subst hb
    refine leaf _ (by rw[ZBi (i:=0)]; rfl) fun y cap hy _=>?_
    rw[hpl] at hy; cases hy
   |i+1,hb=>simp at hb
 · have hl:treeL G ps.length=[leafB (.opq 600) (rowV (G+2) ps.length),.cells true (rowT 100 200 (natL ps.length 0))]:=by
    cases hps:ps.length with
    |zero=>omega
    |succ n=>rfl
   refine ⟨ZAh G [x,y],?_,tells_mk h0 (by rw[hl]; show G+1+2≤_; omega) (fun z hz=>?_),by rw[ZBi (i:=0)]; rfl⟩
   rotate_left
   · simp only[List.mem_cons,List.not_mem_nil,or_false] at hz
     rcases hz with rfl|rfl
     · exact h1.img hH
     · exact k6.img hH
   rw[hl]
   refine mkRel hG h0 hgs rfl (by show G+1+2≤_; omega) (fun b hb=>?_) (fun z hz=>?_) (fun i b hb=>?_) hheld
   · simp only[List.mem_cons,List.not_mem_nil,or_false] at hb
     rcases hb with rfl|rfl<;>rfl
   · simp only[List.mem_cons,List.not_mem_nil,or_false] at hz
     rcases hz with rfl|rfl
     · exact h1.lt hH
     · exact k6.lt hH
   · match i,hb with
     |0,hb=>
      simp only[List.getElem?_cons_zero,Option.some.injEq] at hb
      subst hb
      refine leaf _ (by rw[ZBi (i:=0)]; rfl) fun y' cap' hy hc=>?_
      have e2:ZAh G [x,y] (G+2)=some y:=by rw[show G+2=G+1+1 by omega,ZBi (i:=1)]; rfl
      rw[e2]
      rw[k3] at hy
      injection hy with e3 e4 e5
      injection e3 with e3
      injection e3 with e6 e7 e8
      obtain ⟨c,el,fz,g1,g2,_⟩:=k6
      obtain ⟨c',el',fz',g1',g2',_⟩:=hc
      rw[← e6,g1] at g1'
      cases g1'
      congr 1
      exact Prod.ext e6 (Prod.ext e7 (g2.trans g2'.symm))
     |1,hb=>
      simp only[List.getElem?_cons_succ,List.getElem?_cons_zero,Option.some.injEq] at hb
      subst hb
      exact zBy hH k6 (by rw[ZBi (i:=1)]; rfl) (hrow _) fun v hv=>rowT_cell hv
     |i+2,hb=>simp at hb
def isOpqB:AVal→Bool
 | .opq _=>true
 |_=>false
theorem opq_unique {T:Tok} {φ φ':Phi}:∀ {l:List AVal} {vs vs':List Value},(∀ v,v∈l→isOpqB v=true)→@zAa T φ l vs→@zAa T φ' l vs'→vs=vs'
 | [],_,_,_,h,h'=>by cases h; cases h'; rfl
 |x::l,_,_,ho,h,h'=>by
  cases h with
  |cons h1 h2=>
   cases h' with
   |cons h3 h4=>
    have hx:=ho x (List.mem_cons_self ..)
    cases x<;>first|(cases hx; done)|skip
    cases h1; cases h3
    rw[opq_unique (fun v hv=>ho v (List.mem_cons_of_mem _ hv)) h2 h4]
def insAt:Nat→Value×Value→List (Value×Value)→List (Value×Value)
 |0,e,l=>e::l
 |p+1,e,a::l=>a::insAt p e l
 |_+1,_,[]=>[]
theorem insAt_len:∀ {p:Nat} {e:Value×Value} {l:List (Value×Value)},p≤l.length→(insAt p e l).length=l.length+1
 |0,_,l,_=>rfl
 |p+1,e,a::l,h=>by show (insAt p e l).length+1=_; rw[insAt_len (by simpa using h)]; rfl
 |p+1,e,[],h=>by simp at h
theorem insR_rel {T:Tok} {φ:Phi} {kb vb:Nat} {k v:Value} (hk:T.val 0=k) (hv:T.val 1=v):∀ (p:Nat) (ps:List (Value×Value)) (a:Nat),p≤ps.length→(∀ j q,ps[j]? = some q→T.val (kb+(a+j))=q.1∧T.val (vb+(a+j))=q.2)→
 @zAa T φ (insR p (rowT kb vb (natL ps.length a))) (flat (insAt p (k,v) ps))
 |0,ps,a,_,h=>by
  show @zAa T φ (.opq 0::.opq 1::_) (k::v::flat ps)
  exact @zAa.cons T φ _ _ _ _ (by rw[← hk]; exact @VRel.opq T φ 0) (@zAa.cons T φ _ _ _ _ (by rw[← hv]; exact @VRel.opq T φ 1) (rowT_rel ps a h))
 |p+1,[],a,hp,_=>by simp at hp
 |p+1,q::ps,a,hp,h=>by
  obtain ⟨h1,h2⟩:=h 0 q rfl
  have ih:=insR_rel (T:=T) (φ:=φ) (kb:=kb) (vb:=vb) hk hv p ps (a+1) (by simpa using hp) fun j r hr=>by
   have:=h (j+1) r (by rw[List.getElem?_cons_succ]; exact hr)
   rwa [show a+(j+1)=a+1+j by omega] at this
  show @zAa T φ (.opq (kb+a)::.opq (vb+a)::insR p (rowT kb vb (natL ps.length (a+1)))) (q.1::q.2::flat (insAt p (k,v) ps))
  exact @zAa.cons T φ _ _ _ _ (by rw[← h1]; exact @VRel.opq T φ (kb+a)) (@zAa.cons T φ _ _ _ _ (by rw[← h2]; exact @VRel.opq T φ (vb+a)) ih)
theorem insR_opq:∀ (p:Nat) (l:List AVal),(∀ v,v∈l→isOpqB v=true)→∀ v,v∈insR p l→isOpqB v=true
 |0,l,h,v,hv=>by
  rcases List.mem_cons.1 hv with rfl|hv
  · rfl
  · rcases List.mem_cons.1 hv with rfl|hv
    · rfl
    · exact h v hv
 |p+1,[],h,v,hv=>h v hv
 |p+1,[a],h,v,hv=>h v hv
 |p+1,a::b::l,h,v,hv=>by
  rcases List.mem_cons.1 hv with rfl|hv
  · exact h _ (List.mem_cons_self ..)
  · rcases List.mem_cons.1 hv with rfl|hv
    · exact h _ (List.mem_cons_of_mem _ (List.mem_cons_self ..))
    · exact insR_opq p l (fun v hv=>h v (List.mem_cons_of_mem _ (List.mem_cons_of_mem _ hv))) v hv
theorem rowT_opq {kb vb:Nat}:∀ {l:List Nat} {v:AVal},v∈rowT kb vb l→isOpqB v=true
 | [],_,h=>by cases h
 |j::l,v,h=>by
  rcases List.mem_cons.1 h with rfl|h
  · rfl
  · rcases List.mem_cons.1 h with rfl|h
    · rfl
    · exact rowT_opq h
end Go.AM
namespace Go.AM
variable {P:Program}
theorem ZAu {G:Nat} (h0:0<G) {l:List Blk} (hb:G+1+l.length≤65536) {i:Nat} {b:Blk} (hi:l[i]? = some b):G+1+i<(zAe G 0 .none l).next∧(zAe G 0 .none l).get (G+1+i)=b:=by
 have hn:(zAe G 0 .none l).next=G+1+l.length:=ZAt l _
 have hlt:i<l.length:=by
  rcases Nat.lt_or_ge i l.length with h|h
  · exact h
  · rw[List.getElem?_eq_none h] at hi; cases hi
 refine ⟨by rw[hn]; omega,?_⟩
 rw[zAu h0 hb (by omega),if_pos (by omega),show G+1+i-(G+1)=i by omega,hi]; rfl
theorem zAi.sub {H:Heap} {x:Img} {vs:List Value} (h:zAi H x vs) {o n:Nat} (hn:o+n≤vs.length):zAi H (x.1,x.2.1+o,x.2.2) ((vs.drop o).take n):=by
 obtain ⟨c,el,fz,h1,h2,h3,h4⟩:=h
 refine ⟨c,el,fz,h1,h2,?_,?_⟩
 · rw[List.length_take,List.length_drop]
   show x.2.1+o+min n (vs.length-o)≤c.size
   omega
 · rw[List.length_take,List.length_drop,Nat.min_eq_left (by omega)]
   show (c.toList.drop (x.2.1+o)).take n=_
   rw[← h4,List.drop_take,List.drop_drop,List.take_take,Nat.min_eq_left (by omega)]
theorem flat_drop:∀ (d:Nat) (ps:List (Value×Value)),(flat ps).drop (2*d)=flat (ps.drop d)
 |0,ps=>rfl
 |d+1,[]=>by simp[flat]
 |d+1,p::ps=>by
  rw[show 2*(d+1)=2*d+2 by omega]
  show (p.1::p.2::flat ps).drop (2*d+2)=_
  simp only[List.drop_succ_cons]
  exact flat_drop d ps
theorem flat_take:∀ (d:Nat) (ps:List (Value×Value)),(flat ps).take (2*d)=flat (ps.take d)
 |0,ps=>by simp[flat]
 |d+1,[]=>by simp[flat]
 |d+1,p::ps=>by
  rw[show 2*(d+1)=2*d+2 by omega]
  show (p.1::p.2::flat ps).take (2*d+2)=p.1::p.2::flat (ps.take d)
  simp only[List.take_succ_cons]
  rw[flat_take d ps]
theorem leafOf {T:Tok} {m:Mem} {φ:Phi} {w:World} {H:Heap} (hI:Tells φ m H w) (hr:@Rel T P φ m w) {X A d n:Nat} {fa:AVal} {L:List AVal} {ps:List (Value×Value)} (hX:X<m.next) (hA:A<m.next) (hgX:m.get X=leafB fa (.slice A (2*d) n n false 2)) (hgA:m.get A=.cells true L)
 (hL:∀ φ,@zAa T φ L (flat ps)) (hLo:∀ v,v∈L→isOpqB v=true) (hdn:d+n≤ps.length) (hn:0<n):∃ x f,φ X=some x∧LeafAt H x f ((ps.drop d).take n)∧@VRel T φ fa f:=by
 obtain ⟨x,vs,h1,h2,h3⟩:=ZBd hI hr hX hgX
 obtain ⟨y,us,k1,k2,k3⟩:=ZBd hI hr hA hgA
 have hus:us=flat ps:=opq_unique hLo k3 (hL φ)
 subst hus
 cases h3 with
 | @cons _ f _ _ g1 g2=>
 cases g2 with
 | @cons _ pl _ _ g3 g4=>
 cases g4 with
 | @cons _ z _ _ g5 g6=>
 cases g6
 cases g5
 refine ⟨x,f,h1,⟨pl,h2,?_⟩,g1⟩
 cases g3 with
 |slice _ _ _ _ _ _ cb co sz o' cap' q1 q2 q3 q4 q5 q6=>
  rw[k1] at q1
  cases q1
  have ho:=q5 (by omega)
  have hlen:((ps.drop d).take n).length=n:=by rw[List.length_take,List.length_drop]; omega
  right
  have hs:=k2.sub (o:=2*d) (n:=2*n) (by rw[flat_len]; omega)
  rw[flat_drop,flat_take] at hs
  refine ⟨(cb,co+2*d,sz),cap',by omega,by rw[flat_len],?_,by omega,?_,hs⟩
  · rw[hlen,ho]
  · show co+2*d+cap'*2≤sz
    omega
def Parts1 (H:Heap) (f:Value) (nps:List (Value×Value)) (xs:List Img):Prop:=
 nps.length≤16∧(∃ x,xs=[x]∧LeafAt H x f nps)∨nps.length=17∧∃ x y g,xs=[x,y]∧LeafAt H x f (nps.take 8)∧LeafAt H y g (nps.drop 8)∧(nps[8]?).map (·.1)=some g
theorem keyAt_rel {T:Tok} {φ:Phi}:∀ (j:Nat) (l:List AVal) (ps:List (Value×Value)),@zAa T φ l (flat ps)→j<ps.length→∃ p,ps[j]? = some p∧@VRel T φ (keyAt j l) p.1
 |j,l,[],_,h=>by simp at h
 |0,l,p::ps,hv,_=>by
  have hv':@zAa T φ l (p.1::p.2::flat ps):=hv
  cases hv' with
  |cons h1 h2=>exact ⟨p,rfl,h1⟩
 |j+1,l,p::ps,hv,h=>by
  have hv':@zAa T φ l (p.1::p.2::flat ps):=hv
  cases hv' with
  |cons h1 h2=>
   cases h2 with
   |cons h3 h4=>
    obtain ⟨q,k1,k2⟩:=keyAt_rel j _ ps h4 (by simpa using h)
    exact ⟨q,by rw[List.getElem?_cons_succ]; exact k1,k2⟩
theorem keyAt_opq:∀ (j:Nat) (l:List AVal),(∀ v,v∈l→isOpqB v=true)→isOpqB (keyAt j l)=true∨keyAt j l=.bad
 |0,[],_=>.inr rfl
 |0,a::l,h=>.inl (h a (List.mem_cons_self ..))
 |j+1,[],_=>.inr rfl
 |j+1,[a],_=>.inr rfl
 |j+1,a::b::l,h=>keyAt_opq j l fun v hv=>h v (List.mem_cons_of_mem _ (List.mem_cons_of_mem _ hv))
theorem keyAt_opq' {T:Tok} {φ:Phi}:∀ (j:Nat) (l:List AVal) (ps:List (Value×Value)),@zAa T φ l (flat ps)→(∀ v,v∈l→isOpqB v=true)→j<ps.length→isOpqB (keyAt j l)=true
 |j,l,[],_,_,h=>by simp at h
 |0,l,p::ps,hv,ho,_=>by
  have hv':@zAa T φ l (p.1::p.2::flat ps):=hv
  cases hv' with
  |cons h1 h2=>exact ho _ (List.mem_cons_self ..)
 |j+1,l,p::ps,hv,ho,h=>by
  have hv':@zAa T φ l (p.1::p.2::flat ps):=hv
  cases hv' with
  |cons h1 h2=>
   cases h2 with
   |cons h3 h4=>exact keyAt_opq' j _ ps h4 (fun v hv=>ho v (List.mem_cons_of_mem _ (List.mem_cons_of_mem _ hv))) (by simpa using h)
theorem opq_val {T:Tok} {φ φ':Phi} {x:AVal} {a b:Value} (hx:isOpqB x=true) (h:@VRel T φ x a) (h':@VRel T φ' x b):a=b:=by
 cases x<;>first|(cases hx; done)|skip
 cases h; cases h'; rfl
theorem endL_parts {T:Tok} {G:Nat} (h0:0<G) (hGb:G≤60000) {φ:Phi} {w:World} {H:Heap} {s p:Nat} (hs:s≤16) (hI:Tells φ (zAe G 0 .none (endL G s p)) H w) (hr:@Rel T P φ (zAe G 0 .none (endL G s p)) w) {nps:List (Value×Value)} (hlen:nps.length=s+1) (hL:∀ φ,@zAa T φ (newR s p) (flat nps)) (hLo:∀ v,v∈newR s p→isOpqB v=true)
 {cv:Value} (hc:@VRel T φ (.slice (G+1) 0 (zCb s) (zCb s) false 1) cv):∃ xs,ZAk H 1 cv xs.length (xs.map ptrV)∧Parts1 H (T.val 600) nps xs:=by
 have hll:(endL G s p).length≤4:=by
  unfold endL ZAn zCb
  cases Nat.ble s 15
  · exact Nat.le_refl 4
  · exact Nat.le_succ 3
 have hb:G+1+(endL G s p).length≤65536:=by omega
 cases hs15:Nat.ble s 15 with
 |true=>
  have hs':=zAd.1 hs15
  have hp:zCb s=1:=by unfold zCb; rw[hs15]; rfl
  have he:endL G s p=[.cells true [.ptr (G+2) 0],leafB (.opq 600) (.slice (G+3) 0 (s+1) (s+1) false 2),.cells true (newR s p)]:=by
   unfold endL ZAn
   rw[hp,hs15]; rfl
  obtain ⟨a1,a2⟩:=ZAu (G:=G) h0 hb (i:=0) (b:=.cells true [.ptr (G+2) 0]) (by rw[he]; rfl)
  obtain ⟨b1,b2⟩:=ZAu (G:=G) h0 hb (i:=1) (b:=leafB (.opq 600) (.slice (G+3) 0 (s+1) (s+1) false 2)) (by rw[he]; rfl)
  obtain ⟨c1,c2⟩:=ZAu (G:=G) h0 hb (i:=2) (b:=.cells true (newR s p)) (by rw[he]; rfl)
  obtain ⟨x,f,k1,k2,k3⟩:=leafOf (d:=0) (n:=s+1) hI hr b1 c1 b2 c2 hL hLo (by omega) (by omega)
  obtain ⟨y,vs,r1,r2,r3⟩:=ZBd hI hr a1 a2
  cases r3 with
  | @cons _ pv _ _ g1 g2=>
  cases g2
  cases g1 with
  |ptr _ _ cb co sz hφ=>
   have hφ':φ (G+1+1)=some (cb,co,sz):=hφ
   rw[k1] at hφ'
   cases hφ'
   rw[hp] at hc
   cases hc with
   |slice _ _ _ _ _ _ cb2 co2 sz2 o' cap' q1 q2 q3 q4 q5 q6=>
    have q1':φ (G+1+0)=some (cb2,co2,sz2):=q1
    rw[r1] at q1'
    cases q1'
    have ho:=q5 (by decide)
    refine ⟨[(cb,co,sz)],.inr ⟨(cb2,co2,sz2),cap',Nat.succ_pos _,rfl,by rw[ho]; rfl,q3,by show co2+cap'*1≤sz2; omega,r2⟩,.inl ⟨by omega,_,rfl,?_⟩⟩
    cases k3
    rw[List.drop_zero,List.take_of_length_le (by omega)] at k2
    exact k2
 |false=>
  have hs':=zBj.1 hs15
  have hp:zCb s=2:=by unfold zCb; rw[hs15]; rfl
  have he:endL G s p=[.cells true [.ptr (G+2) 0,.ptr (G+3) 0],leafB (.opq 600) (.slice (G+4) 0 8 8 false 2),leafB (keyAt 8 (newR s p)) (.slice (G+4) 16 9 9 false 2),.cells true (newR s p)]:=by
   unfold endL ZAn
   rw[hp,hs15]; rfl
  obtain ⟨a1,a2⟩:=ZAu (G:=G) h0 hb (i:=0) (b:=.cells true [.ptr (G+2) 0,.ptr (G+3) 0]) (by rw[he]; rfl)
  obtain ⟨b1,b2⟩:=ZAu (G:=G) h0 hb (i:=1) (b:=leafB (.opq 600) (.slice (G+4) 0 8 8 false 2)) (by rw[he]; rfl)
  obtain ⟨d1,d2⟩:=ZAu (G:=G) h0 hb (i:=2) (b:=leafB (keyAt 8 (newR s p)) (.slice (G+4) 16 9 9 false 2)) (by rw[he]; rfl)
  obtain ⟨c1,c2⟩:=ZAu (G:=G) h0 hb (i:=3) (b:=.cells true (newR s p)) (by rw[he]; rfl)
  obtain ⟨x,f,k1,k2,k3⟩:=leafOf (d:=0) (n:=8) hI hr b1 c1 b2 c2 hL hLo (by omega) (by omega)
  obtain ⟨x2,f2,l1,l2,l3⟩:=leafOf (d:=8) (n:=9) hI hr d1 c1 d2 c2 hL hLo (by omega) (by omega)
  obtain ⟨y,vs,r1,r2,r3⟩:=ZBd hI hr a1 a2
  cases r3 with
  | @cons _ pv _ _ g1 g2=>
  cases g2 with
  | @cons _ pv2 _ _ g3 g4=>
  cases g4
  cases g1 with
  |ptr _ _ cb co sz hφ=>
  cases g3 with
  |ptr _ _ cb3 co3 sz3 hφ3=>
   have hφ':φ (G+1+1)=some (cb,co,sz):=hφ
   have hφ3':φ (G+1+2)=some (cb3,co3,sz3):=hφ3
   rw[k1] at hφ'
   rw[l1] at hφ3'
   cases hφ'
   cases hφ3'
   rw[hp] at hc
   cases hc with
   |slice _ _ _ _ _ _ cb2 co2 sz2 o' cap' q1 q2 q3 q4 q5 q6=>
    have q1':φ (G+1+0)=some (cb2,co2,sz2):=q1
    rw[r1] at q1'
    cases q1'
    have ho:=q5 (by decide)
    obtain ⟨pr,hp1,hp2⟩:=keyAt_rel 8 _ nps (hL φ) (by omega)
    have hf2:f2=pr.1:=by
     rcases keyAt_opq 8 _ hLo with h|h
     · exact opq_val h l3 hp2
     · exfalso
       have hne:isOpqB (keyAt 8 (newR s p))=true:=by
        have hs16:s=16:=by omega
        exact keyAt_opq' 8 _ nps (hL φ) hLo (by omega)
       rw[h] at hne; cases hne
    refine ⟨[(cb,co,sz),(cb3,co3,sz3)],.inr ⟨(cb2,co2,sz2),cap',Nat.succ_pos _,rfl,by rw[ho]; rfl,q3,by show co2+cap'*1≤sz2; omega,r2⟩,.inr ⟨by omega,_,_,f2,rfl,?_,?_,by rw[hp1,hf2]; rfl⟩⟩
    · cases k3
      rw[List.drop_zero] at k2
      exact k2
    · rw[List.take_of_length_le (by rw[List.length_drop]; omega)] at l2
      exact l2
end Go.AM
namespace Go.AM
variable {P:Program}
structure OpAt (ops:Array Oper) (i d:Nat) (op:Op):Prop where
 is:∃ o,ops[i]? = some o∧o.guard=none∧o.dst=some d∧o.op=op
theorem ZCs {ops:Array Oper} {Q:Exit→Act→World→Prop} {i d:Nat} {op:Op} (h:OpAt ops i d op) {js:List Nat} {a:Act} {w:World} {v:Value} (hr:∀ o:Oper,o.op=op→(execOp a.eval o).run P w=.ok (.value v) w)
 (hn:wpOps P ops Q js (a.put (some d) v) w):wpOps P ops Q (i::js) a w:=by
 obtain ⟨o,h1,h2,h3,h4⟩:=h.is
 unfold wpOps
 rw[h1]
 simp only
 have hwant:Region.wanted o (yielded ops a.tmps)=true:=by unfold Region.wanted; rw[h2]
 rw[if_pos hwant]
 left
 unfold Oper.wp
 rw[hr o h4,Oper.upon_value,h3]
 exact hn
section
variable {a:Act} {w:World} {o:Oper}
theorem run_mv {t:Nat} (h:o.op=.move (.tmp t)):(execOp a.eval o).run P w=.ok (.value (a.tmps.getD t undef)) w:=by simp[execOp,h,Act.eval]
theorem run_as {t:Nat} (h:o.op=.assign (.tmp t)):(execOp a.eval o).run P w=.ok (.value (a.tmps.getD t undef)) w:=by simp[execOp,h,Act.eval]
theorem run_ln {t tt e:Nat} (hu:P.underlying tt=some (.slice e)) (h:o.op=.call ⟨.builtin .len,#[.tmp t],#[tt]⟩) {b:Option Addr} {n c:Nat} (ht:a.tmps.getD t undef=.slice b n c) :
 (execOp a.eval o).run P w=.ok (.value (.int .i64 (n:Int))) w:=by
 simp[execOp,h,resolve,Act.eval,ht,invoke,builtin,Builtin.len_,run_underlying hu,goInt]
theorem run_lt {x y t t2:Nat} (h:o.op=.binOp .lss t (.tmp x) (.tmp y) t2) {i j:Int} (hx:a.tmps.getD x undef=.int .i64 i) (hy:a.tmps.getD y undef=.int .i64 j) :
 (execOp a.eval o).run P w=.ok (.value (.bool (decide (i<j)))) w:=by
 simp[execOp,h,Act.eval,hx,hy,eqGuard,binOp,Op.intCmp]
theorem run_inc {x t t2:Nat} (h:o.op=.binOp .add t (.tmp x) (.const (.int .i64 1)) t2) {i:Nat} (hi:i<1000) (hx:a.tmps.getD x undef=.int .i64 (i:Int)) :
 (execOp a.eval o).run P w=.ok (.value (.int .i64 ((i+1:Nat):Int))) w:=by
 have e:IntKind.wrap .i64 ((i:Int)+1)=((i+1:Nat):Int):=by
  simp[IntKind.wrap,IntKind.signed,IntKind.bits]
  omega
 simp[execOp,h,Act.eval,hx,eqGuard,binOp,Op.intArith,e]
theorem run_ix {x y tt e:Nat} (hu:P.underlying tt=some (.slice e)) (hs:∀ w:World,(sizeOf e).run P w=.ok 1 w) (h:o.op=.indexAddr tt (.tmp x) (.tmp y)) {ad:Addr} {n c i:Nat} (hi:i<n) (hx:a.tmps.getD x undef=.slice (some ad) n c) (hy:a.tmps.getD y undef=.int .i64 (i:Int)) :
 (execOp a.eval o).run P w=.ok (.value (.pointer (some (ad.add i)))) w:=by
 have h1:(0≤(i:Int)∧(i:Int)<(n:Int)):=⟨Int.natCast_nonneg i,by omega⟩
 simp[execOp,h,Act.eval,hx,hy,Instr.indexAt,run_underlying hu,asIntOf,hs,h1,hi]
theorem run_ld {x e:Nat} (ha:∀ w:World,(isAgg e).run P w=.ok false w) (h:o.op=.load e (.tmp x)) {ad:Addr} {v:Value} (hx:a.tmps.getD x undef=.pointer (some ad)) (hc:w.cell? ad=some v) :
 (execOp a.eval o).run P w=.ok (.value v) w:=by
 simp[execOp,h,Act.eval,hx,Instr.loadAt,Instr.sureAddr,loadVar,ha,hc]
end
theorem zBm {nt:Nat} {a:Act} (ha:zBc nt a) {d:Nat} (hd:d<nt) (c:Value):(a.put (some d) c).tmps.getD d undef=c:=by rw[put_get ha hd,if_pos rfl]
theorem ZAi {nt:Nat} {a:Act} (ha:zBc nt a) {d:Nat} (hd:d<nt) (c:Value) {t:Nat} (h:t≠d):(a.put (some d) c).tmps.getD t undef=a.tmps.getD t undef:=by rw[put_get ha hd,if_neg h]
section
variable {ops:Array Oper} {Q:Exit→Act→World→Prop} {a:Act} {w:World}
end
end Go.AM
namespace Go.AM
variable {P:Program}
section
def nextN (n c:Nat):Nat:=match c with|0=>Nat.succ n|1=>n|_+2=>Nat.pred n
def nextB (c:Nat):Nat:=match c with|0=>1|_+1=>0
def roundL (G c:Nat):List (Nat×AVal):=[(0,.opq 0),(3,.ptr (Nat.succ G) 0),(4,.nx .u64 0),(5,.opq 1),(27,.int .u8 (.ofNat c))]
def roundW:Ways:=⟨true,fun i=>Nat.beq i 1,false⟩
def roundRun (P:Program) (K:KH) (G g0:Nat) (b0:Blk) (X Y:Code) (n c:Nat):Bool:=
 match zBv P 143 K [X,Y] roundW (roundL G c) [0,3,4,5] (stoM G g0 b0 n) with
 | .ok v m=>stoChk G g0 b0 (nextN n c) (nextB c) v m
 | .fail _=>false
end
end Go.AM
namespace Go.AM
variable {P:Program}
section
theorem inBlock_here {id:Nat} {Q:Exit→Act→World→Prop} {a:Act} {w:World} (h:Q .normal a w):Exit.inBlock id Q (.exit id) a w:=by
 simp only[Exit.inBlock,if_true]
 exact h
theorem evTmp (a:Act) (t:Nat):a.eval (.tmp t)=a.tmps.getD t undef:=rfl
end
end Go.AM
namespace Go.AM
variable {P:Program}
section
def m00 (G g0:Nat) (b0:Blk):Mem:=zAe G g0 b0 []
def nx1:Nat→AVal
 |0=>.int .u64 (.ofNat 1)
 |_+1=>.bad
def ZAb (w w':World):Prop:=(∀ b,b<w.heap.size→w'.heap[b]? = w.heap[b]?)∧w.heap.size≤w'.heap.size∧w'.os=w.os∧w'.output=w.output∧w'.tape=w.tape
theorem ZAb.of {T:Tok} {φ φ':Phi} {m m':Mem} {w w':World} (hst:@Step T P φ m w φ' m' w') (h:∀ q,q<m.next→(m.get q).wr=false):ZAb w w':=
 ⟨fun b hb=>@Step.frame T P φ m w φ' m' w' hst b hb fun q o s hq hw _=>(by rw[h q hq] at hw; cases hw),@Step.size T P φ m w φ' m' w' hst,@Step.os T P φ m w φ' m' w' hst,@Step.out T P φ m w φ' m' w' hst,@Step.tape T P φ m w φ' m' w' hst⟩
theorem ZAb.trans {w w' w'':World} (h:ZAb w w') (h':ZAb w' w''):ZAb w w'':=
 ⟨fun b hb=>(h'.1 b (Nat.lt_of_lt_of_le hb h.2.1)).trans (h.1 b hb),Nat.le_trans h.2.1 h'.2.1,h'.2.2.1.trans h.2.2.1,h'.2.2.2.1.trans h.2.2.2.1,h'.2.2.2.2.trans h.2.2.2.2⟩
theorem m00_ro {G g0:Nat} {b0:Blk} (hg:g0<G) (hG:G+1≤65536) (h0:b0.wr=false):∀ q,q<(m00 G g0 b0).next→((m00 G g0 b0).get q).wr=false:=
 zCc hg hG h0 fun b hb=>by cases hb
end
end Go.AM
namespace Go.AM
variable {P:Program}
structure Ent where
 kb:List UInt8
 k:Value
 v:Value
def kvs (es:List Ent):List (Value×Value):=es.map fun e=>(e.k,e.v)
def EntOk (H:Heap) (e:Ent):Prop:=zAy H e.k e.kb∧∃ vb,zAy H e.v vb
theorem EntOk.mono {H H':Heap} {e:Ent} (h:EntOk H e) (hH:∀ b o,H b=some o→H' b=some o):EntOk H' e:=
 ⟨h.1.mono hH,h.2.imp fun vb h=>h.mono hH⟩
def Side (p:Nat) (kb:List UInt8) (es:List Ent):Prop:=∀ j e,es[j]? = some e→(j<p→lexC e.kb kb = -1)∧(p≤j→lexC e.kb kb=1)
@[reducible] def tokB (H:Heap) (v:Nat→Value) (h:∀ j,(v j).oneCell'=true):Tok where
 num _:=0
 cnt:=0
 pos _ hj:=absurd hj (Nat.not_lt_zero _)
 hi _ hj:=absurd hj (Nat.not_lt_zero _)
 mono _ _ _ hj:=absurd hj (Nat.not_lt_zero _)
 base:=0
 val:=v
 cell:=h
 hold:=H
 strong:=true
def keyV (es:List Ent) (j:Nat):Value:=((es[j]?).map (·.k)).getD nilS
def valV (es:List Ent) (j:Nat):Value:=((es[j]?).map (·.v)).getD nilS
theorem keyV_cell {H:Heap} {es:List Ent} (h:∀ e,e∈es→EntOk H e) (j:Nat):(keyV es j).oneCell'=true∧(valV es j).oneCell'=true:=by
 unfold keyV valV
 cases hj:es[j]? with
 |none=>exact ⟨rfl,rfl⟩
 |some e=>
  obtain ⟨h1,vb,h2⟩:=h e (List.mem_of_getElem? hj)
  exact ⟨h1.cell,h2.cell⟩
def ZAd (k v f0:Value) (es es2:List Ent) (fs pls:Nat→Value) (i:Nat):Value:=
 if i=0 then k else if i=1 then v else if i<100 then nilS else if i<200 then keyV es (i-100) else if i<300 then valV es (i-200) else if i<350 then keyV es2 (i-300) else if i<400 then valV es2 (i-350) else
  if i<500 then fs (i-400) else if i<600 then pls (i-500) else f0
theorem tokVals_cell {k v f0:Value} {es es2:List Ent} {fs pls:Nat→Value} {H:Heap} (hk:k.oneCell'=true) (hv:v.oneCell'=true) (hf:f0.oneCell'=true) (h:∀ e,e∈es→EntOk H e) (h2:∀ e,e∈es2→EntOk H e) (hfs:∀ i,(fs i).oneCell'=true) (hpl:∀ i,(pls i).oneCell'=true) (i:Nat) :
 (ZAd k v f0 es es2 fs pls i).oneCell'=true:=by
 unfold ZAd
 repeat' split
 all_goals first
  |exact hk
  |exact hv
  |rfl
  |exact (keyV_cell h _).1
  |exact (keyV_cell h _).2
  |exact (keyV_cell h2 _).1
  |exact (keyV_cell h2 _).2
  |exact hfs _
  |exact hpl _
  |exact hf
theorem kvs_get {es:List Ent} {j:Nat} {q:Value×Value} (h:(kvs es)[j]? = some q):keyV es j=q.1∧valV es j=q.2:=by
 unfold kvs at h
 rw[List.getElem?_map] at h
 unfold keyV valV
 cases hj:es[j]? with
 |none=>rw[hj] at h; cases h
 |some e=>rw[hj] at h; cases h; exact ⟨rfl,rfl⟩
theorem ZBe (es:List Ent):(kvs es).length=es.length:=List.length_map _
theorem zAn {α:Type} (x y:α) (b:Bool):zAc x y b=if b=true then x else y:=by cases b<;>rfl
theorem tokSide_eq (m c s s2 p i:Nat):tokSide m c s s2 p i=if i<100 then none else if i<200 then (if i<100+p then some true else if i<100+s then some false else none) else if i<300 then none else
 if i<350 then (if i<300+s2 then some false else none) else if i<400 then none else if i<400+m then (if i≤400+c then some true else some false) else none:=by
 have e1:(400:Nat).add c=400+c:=rfl
 have e2:(300:Nat).add s2=300+s2:=rfl
 have e3:(100:Nat).add s=100+s:=rfl
 have e4:(100:Nat).add p=100+p:=rfl
 have e5:(400:Nat).add m=400+m:=rfl
 unfold tokSide
 simp only[zAn,zAd,Nat.succ_le_iff,e1,e2,e3,e4,e5]
theorem tokSideL {s p i:Nat} {t:Bool} (h:tokSide 0 0 s 0 p i=some t) (hp:p≤s) (hs:s≤16):∃ j,i=100+j∧j<s∧(t=true→j<p)∧(t=false→p≤j):=by
 rw[tokSide_eq] at h
 refine ⟨i-100,?_⟩
 repeat' split at h
 all_goals first
  |(cases h; done)
  |(exfalso; omega)
  |(cases h; refine ⟨by omega,by omega,fun _=>(by omega),fun e=>(by cases e)⟩)
  |(cases h; refine ⟨by omega,by omega,fun e=>(by cases e),fun _=>(by omega)⟩)
theorem cmpL {H:Heap} {k v f0:Value} {kb:List UInt8} {es es2:List Ent} {fs pls:Nat→Value} {p:Nat} (hc:∀ j,(ZAd k v f0 es es2 fs pls j).oneCell'=true) (hk:zAy H k kb) (he:∀ e,e∈es→EntOk H e) (hS:Side p kb es) (hp:p≤es.length) (hs:es.length≤16) :
 CmpT (tokB H (ZAd k v f0 es es2 fs pls) hc) 0 0 es.length 0 p:=by
 intro i t ht
 obtain ⟨j,rfl,hj,h1,h2⟩:=tokSideL ht hp hs
 have hge:=List.getElem?_eq_getElem hj
 have hval:ZAd k v f0 es es2 fs pls (100+j)=es[j].k:=by
  unfold ZAd
  rw[if_neg (by omega),if_neg (by omega),if_neg (by omega),if_pos (by omega),show 100+j-100=j by omega]
  unfold keyV
  rw[hge]; rfl
 refine ⟨es[j].kb,kb,?_,hk,?_⟩
 · show zAy H (ZAd k v f0 es es2 fs pls (100+j)) _
   rw[hval]; exact (he _ (List.getElem_mem hj)).1
 · obtain ⟨s1,s2⟩:=hS j _ hge
   cases t with
   |true=>exact s1 (h1 rfl)
   |false=>exact s2 (h2 rfl)
theorem absMem_live {σ:Map} {g0:Nat} {b0:Blk} {l:List Blk} {m:Mem} (hmb:m.next≤65536) (hc:zAp σ g0 b0 l m=true) (hb0:b0.live=false) {p:Nat} (hp:p<σ.top) (hl:((zAe σ.G g0 b0 l).get p).live=true):σ.nm p<m.next∧(m.get (σ.nm p)).live=true:=by
 unfold zAp at hc
 simp only[Bool.and_eq_true,zAd] at hc
 obtain ⟨⟨⟨c1,c2⟩,c3,c4⟩,c5,c6⟩:=hc
 obtain ⟨hlen,hblk⟩:=chkL_ok c6
 rw[zBd] at c2 hp
 rw[zAu c1 (by omega) (by omega)] at hl
 split at hl
 · rename_i h1
   have h3:p-(σ.G+1)<l.length:=by omega
   have h4:p-(σ.G+1)<σ.ns.length:=by omega
   have e3:=List.getElem?_eq_getElem h3
   have e4:=List.getElem?_eq_getElem h4
   rw[e3] at hl
   have hnm:σ.nm p=σ.ns[p-(σ.G+1)]:=by rw[nm_high (by omega),e4]; rfl
   obtain ⟨_,g2,g3⟩:=hblk _ _ _ e3 e4
   rw[hnm]
   refine ⟨g2,?_⟩
   generalize m.get (σ.ns[p-(σ.G+1)])=b at g3
   generalize l[p-(σ.G+1)]=t at g3 hl
   cases t<;>cases b<;>first|rfl|(cases g3; done)|(cases hl; done)
 · split at hl
   · rw[hb0] at hl; cases hl
   · cases hl
theorem tells_step {T:Tok} {G:Nat} {ns:List Nat} {φ φ':Phi} {m m':Mem} {w w':World} {E:List Blk} {H:Heap} (hst:@Step T P φ m w φ' m' w') (hro:∀ q,q<m.next→(m.get q).wr=false) (hT:Tells φ m H w) (h:zAp (zAx G ns) 0 .none E m'=true) :
 Tells (zAj (zAx G ns) φ') (zAe G 0 .none E) (upd H w w') w':=by
 intro p x hp hl
 unfold zAj at hp
 split at hp
 · rename_i hlt
   obtain ⟨h1,h2⟩:=absMem_live (@Rel.bound T P _ _ _ (@Step.rel T P _ _ _ _ _ _ hst)) h rfl hlt hl
   unfold upd
   split
   · rename_i hx
     rcases Nat.lt_or_ge ((zAx G ns).nm p) m.next with hq|hq
     · rcases @Step.fresh T P _ _ _ _ _ _ hst _ _ hp with g|g
       · rw[(ZAb.of hst hro).1 _ hx]
         exact hT _ _ g (@Step.live T P _ _ _ _ _ _ hst _ hq h2)
       · omega
     · obtain ⟨q,o',s',g1,g2,_⟩:=@Step.img T P _ _ _ _ _ _ hst _ x.1 x.2.1 x.2.2 hq h1 h2 hp hx
       rw[hro q g1] at g2; cases g2
   · rfl
 · cases hp
theorem idRel {T:Tok} {G:Nat} (hst:T.strong=true) (hG:P.globals.size=G) {ns:List Nat} {φ:Phi} {m:Mem} {w:World} {E:List Blk} (hr:@Rel T P φ m w) (h:zAp (zAx G ns) 0 .none E m=true) :
 @Rel T P (zAj (zAx G ns) φ) (zAe G 0 .none E) w∧∀ t s,absN (zAx G ns) 4 t s=true→∀ c,@VRel T φ s c→@VRel T (zAj (zAx G ns) φ) t c:=
 absorb (T:=T) (T':=T) (σ:=zAx G ns) (g0:=0) (b0:=.none) hG.symm hr h (fun _ j c hj _=>absurd hj (Nat.not_lt_zero _)) (fun kk d s c hs _=>(aeq_bad hs).elim)
  (fun i s c hs hc=>by
   have e:=@ZAf tok0 2 _ _ (show aeqN 2 s (.opq i)=true from hs)
   subst e
   cases hc; exact @VRel.opq T _ i) (fun _ _ h=>h) (fun _=>⟨hst,rfl⟩)
theorem absN_up {σ:Map} {b n:Nat} {x:AVal} (h:absN σ 2 (.slice b 0 n n false 1) x=true):absN σ 4 (.slice b 0 n n false 1) x=true:=by
 cases x<;>exact h
theorem putL_ok {K:KH} {f G:Nat} (hG:P.globals.size=G) (h0:0<G) (hGb:G≤60000) {w:World} (hgs:G≤w.heap.size) {H:Heap} (hH:In H w) {x:Img} {f0 k v:Value} {kb:List UInt8} {vb:List UInt8} {es:List Ent} {p:Nat} (hK:∀ T:Tok,T.strong=true→CmpT T 0 0 es.length 0 p→@zBb T P K)
 (hrun:putLRun K f G 0 .none es.length p=true) (hs:es.length≤16) (hp:p≤es.length) (hf0:f0.oneCell'=true) (hl:LeafAt H x f0 (kvs es)) (he:∀ e,e∈es→EntOk H e) (hk:zAy H k kb) (hv:zAy H v vb) (hS:Side p kb es) :
 Ends P f #[ptrV x,.agg #[k,v]] w fun cv w'=>ZAb w w'∧∃ sl xs,cv=.tuple #[sl,.bool true]∧ZAk (upd H w w') 1 sl xs.length (xs.map ptrV)∧Parts1 (upd H w w') f0 (insAt p (k,v) (kvs es)) xs:=by
 have hcell:=tokVals_cell (es2:=[]) (fs:=fun _=>nilS) (pls:=fun _=>nilS) hk.cell hv.cell hf0 he (fun e h=>by cases h) (fun _=>rfl) (fun _=>rfl)
 let T:Tok:=tokB H (ZAd k v f0 es [] (fun _=>nilS) (fun _=>nilS)) hcell
 have t0:T.val 0=k:=rfl
 have t1:T.val 1=v:=rfl
 have t6:T.val 600=f0:=rfl
 have tkv:∀ j q,(kvs es)[j]? = some q→T.val (100+j)=q.1∧T.val (200+j)=q.2:=by
  intro j q hj
  obtain ⟨g1,g2⟩:=kvs_get hj
  have hjl:j<es.length:=by
   rcases Nat.lt_or_ge j (kvs es).length with h|h
   · rwa [ZBe] at h
   · rw[List.getElem?_eq_none h] at hj; cases hj
  constructor
  · show ZAd k v f0 es [] _ _ (100+j)=_
    unfold ZAd
    rw[if_neg (by omega),if_neg (by omega),if_neg (by omega),if_pos (by omega),show 100+j-100=j by omega,g1]
  · show ZAd k v f0 es [] _ _ (200+j)=_
    unfold ZAd
    rw[if_neg (by omega),if_neg (by omega),if_neg (by omega),if_neg (by omega),if_pos (by omega),show 200+j-200=j by omega,g2]
 have hCmp:CmpT T 0 0 es.length 0 p:=cmpL hcell hk he hS hp hs
 obtain ⟨φ,hr,hI,hφ⟩:=relL (T:=T) hG h0 hGb hgs hH hl t6 tkv hH
 rw[ZBe] at hr hI
 have hargs:@zAa T φ (putArgs G) (#[ptrV x,.agg #[k,v]]:Array Value).toList:=by
  refine @zAa.cons T φ _ _ _ _ ?_ (@zAa.cons T φ _ _ _ _ ?_ (@zAa.nil T φ))
  · exact @VRel.ptr T φ (G+1) 0 x.1 x.2.1 x.2.2 hφ
  · refine @VRel.agg T φ [.opq 0,.opq 1] #[k,v] (@zAa.cons T φ _ _ _ _ (@VRel.opq T φ 0) (@zAa.cons T φ _ _ _ _ (@VRel.opq T φ 1) (@zAa.nil T φ))) (fun v hv=>?_)
    simp only[List.mem_cons,List.not_mem_nil,or_false] at hv
    rcases hv with rfl|rfl<;>rfl
 unfold putLRun at hrun
 split at hrun
 · rename_i y t m hq
   unfold putChk at hrun
   simp only[Bool.and_eq_true] at hrun
   obtain ⟨rfl,h1,h2⟩:=hrun
   have hro:∀ q,q<(zAe G 0 .none (treeL G es.length)).next→((zAe G 0 .none (treeL G es.length)).get q).wr=false:=by
    have hlen:G+1+(treeL G es.length).length≤65536:=by
     have:(treeL G es.length).length≤2:=by
      unfold treeL
      cases es.length with
      |zero=>exact Nat.le_succ 1
      |succ n=>exact Nat.le_refl 2
     omega
    refine zCc h0 hlen rfl fun b hb=>?_
    unfold treeL at hb
    rcases List.mem_cons.1 hb with rfl|hb
    · rfl
    · cases hes:es.length with
      |zero=>rw[hes] at hb; cases hb
      |succ n=>
       rw[hes] at hb
       rcases List.mem_cons.1 hb with rfl|hb
       · rfl
       · cases hb
   refine (hK T rfl hCmp f _ _ _ m hq φ w _ hr hargs).mono fun cv w' ⟨φ',hst,hvc⟩=>⟨ZAb.of hst hro,?_⟩
   cases hvc with
   |tuple _ cs hcs=>
   generalize hcl:cs.toList=L at hcs
   cases hcs with
   | @cons _ sl _ _ g1 g2=>
   cases g2 with
   |cons g3 g4=>
   cases g4
   cases g3
   obtain ⟨r1,r2⟩:=idRel (T:=T) rfl hG (@Step.rel T P _ _ _ _ _ _ hst) h2
   have hsl:=r2 _ _ (absN_up h1) _ g1
   have hnew:∀ φ,@zAa T φ (newR es.length p) (flat (insAt p (k,v) (kvs es))):=fun φ=>by
    have:=insR_rel (T:=T) (φ:=φ) (kb:=100) (vb:=200) t0 t1 p (kvs es) 0 (by rw[ZBe]; exact hp) fun j q hj=>by rw[Nat.zero_add]; exact tkv j q hj
    rw[ZBe] at this; exact this
   obtain ⟨xs,k1,k2⟩:=endL_parts (T:=T) h0 hGb hs (tells_step hst hro hI h2) r1 (nps:=insAt p (k,v) (kvs es)) (by rw[insAt_len (by rw[ZBe]; exact hp),ZBe]) hnew (fun v hv=>insR_opq p _ (fun v hv=>rowT_opq hv) v hv) hsl
   exact ⟨sl,xs,by congr 1; rw[← Array.toList_inj]; exact hcl,k1,k2⟩
 · cases hrun
end Go.AM
namespace Go.AM
variable {P:Program}
structure Kid where
 x:Img
 f:Value
 pl:Value
 es:List Ent
def KidAt (H:Heap) (K:Kid):Prop:=zAi H K.x [K.f,K.pl,nilS]∧ZAk H 2 K.pl K.es.length (flat (kvs K.es))∧(∀ e,e∈K.es→EntOk H e)∧∃ fb,zAy H K.f fb
theorem KidAt.mono {H H':Heap} {K:Kid} (h:KidAt H K) (hH:∀ b o,H b=some o→H' b=some o):KidAt H' K:=by
 obtain ⟨h1,h2,h3,fb,h4⟩:=h
 exact ⟨h1.mono hH,h2.mono hH,fun e he=>(h3 e he).mono hH,fb,h4.mono hH⟩
theorem ZAk.cell {H:Heap} {z n:Nat} {pl:Value} {vs:List Value} (h:ZAk H z pl n vs):pl.oneCell'=true:=by
 rcases h with ⟨_,_,rfl⟩|⟨x,cap,_,_,rfl,_⟩<;>rfl
def TreeN (H:Heap) (x:Img) (f0:Value) (ls:List Kid):Prop:=∃ chl,zAi H x [f0,nilS,chl]∧ZAk H 1 chl ls.length (ls.map fun K=>ptrV K.x)∧∀ K,K∈ls→KidAt H K
theorem zCk:∀ (a b:List Blk) (i:Nat),(ZCa a b)[i]? = if i<a.length then a[i]? else b[i-a.length]?
 | [],b,i=>by show b[i]? = _; rw[if_neg (by simp)]; simp
 |x::a,b,0=>by show some x=_; rw[if_pos (by simp)]; rfl
 |x::a,b,i+1=>by
  show (x::ZCa a b)[i+1]? = _
  rw[List.getElem?_cons_succ,zCk a b i]
  simp only[List.length_cons,Nat.add_lt_add_iff_right,List.getElem?_cons_succ,Nat.add_sub_add_right]
theorem appBs_len:∀ (a b:List Blk),(ZCa a b).length=a.length+b.length
 | [],b=>by show b.length=_; simp
 |x::a,b=>by show (ZCa a b).length+1=_; rw[appBs_len a b]; simp; omega
theorem appBs_mem {x:Blk}:∀ {a b:List Blk},x∈ZCa a b→x∈a∨x∈b
 | [],b,h=>.inr h
 |y::a,b,h=>by
  rcases List.mem_cons.1 h with rfl|h
  · exact .inl (List.mem_cons_self ..)
  · rcases appBs_mem h with h|h
    · exact .inl (List.mem_cons_of_mem _ h)
    · exact .inr h
theorem kidsL_get (G m c s s2:Nat):∀ (n a i:Nat),(kidsL G m c s s2 (natL n a))[i]? = if i<n then some (kidB G m c s s2 (a+i)) else none
 |0,a,i=>by show (([]:List Blk))[i]? = _; rw[if_neg (by omega)]; rfl
 |n+1,a,0=>by show some (kidB G m c s s2 a)=_; rw[if_pos (by omega)]; rfl
 |n+1,a,i+1=>by
  show (kidB G m c s s2 a::kidsL G m c s s2 (natL n (a+1)))[i+1]? = _
  rw[List.getElem?_cons_succ,kidsL_get G m c s s2 n (a+1) i,show a+1+i=a+(i+1) by omega]
  simp only[Nat.add_lt_add_iff_right]
theorem kidsL_len (G m c s s2:Nat):∀ (n a:Nat),(kidsL G m c s s2 (natL n a)).length=n
 |0,a=>rfl
 |n+1,a=>by show (kidsL G m c s s2 (natL n (a+1))).length+1=_; rw[kidsL_len G m c s s2 n (a+1)]
theorem ptrsL_rel {T:Tok} {φ:Phi}:∀ (xs:List Img) (a:Nat),(∀ j x,xs[j]? = some x→φ (a+j)=some x)→@zAa T φ (ptrsL xs.length a) (xs.map ptrV)
 | [],_,_=>@zAa.nil T φ
 |x::xs,a,h=>by
  have ih:=ptrsL_rel (T:=T) (φ:=φ) xs (a+1) fun j y hy=>by
   have:=h (j+1) y (by rw[List.getElem?_cons_succ]; exact hy)
   rwa [show a+(j+1)=a+1+j by omega] at this
  exact @zAa.cons T φ _ _ _ _ (@VRel.ptr T φ a 0 x.1 x.2.1 x.2.2 (h 0 x rfl)) ih
theorem ptrsL_cell:∀ {n a:Nat} {v:AVal},v∈ptrsL n a→v.isCell=true
 |0,_,_,h=>by cases h
 |n+1,a,v,h=>by
  rcases List.mem_cons.1 h with rfl|h
  · rfl
  · exact ptrsL_cell h
theorem kidB_ro {G m c s s2 i:Nat}:(kidB G m c s s2 i).wr=false:=by
 unfold kidB
 cases Nat.beq i c
 · cases (and (Nat.beq i (Nat.succ c)) (Nat.ble 1 s2))<;>rfl
 · rfl
theorem kidsL_ro {G m c s s2:Nat}:∀ {l:List Nat} {b:Blk},b∈kidsL G m c s s2 l→b.wr=false
 | [],_,h=>by cases h
 |i::l,b,h=>by
  rcases List.mem_cons.1 h with rfl|h
  · exact kidB_ro
  · exact kidsL_ro h
theorem treeN_ro {G m c s s2:Nat}:∀ b,b∈treeN G m c s s2→b.wr=false:=by
 intro b hb
 unfold treeN at hb
 rcases List.mem_cons.1 hb with rfl|hb
 · rfl
 · rcases List.mem_cons.1 hb with rfl|hb
   · rfl
   · rcases appBs_mem hb with hb|hb
     · exact kidsL_ro hb
     · rcases List.mem_cons.1 hb with rfl|hb
       · rfl
       · cases s2 with
         |zero=>cases hb
         |succ n=>
          rcases List.mem_cons.1 hb with rfl|hb
          · rfl
          · cases hb
theorem treeN_len {G m c s s2:Nat}:(treeN G m c s s2).length=3+m+(oneOr s2 (.cells true (rowT 300 350 (natL s2 0)))).length:=by
 unfold treeN
 simp only[List.length_cons,appBs_len,kidsL_len]
 omega
theorem relN {T:Tok} {G:Nat} (hG:P.globals.size=G) (h0:0<G) (hGb:G≤60000) {w:World} (hgs:G≤w.heap.size) {H:Heap} (hH:In H w) {x:Img} {f0:Value} {ls:List Kid} (h:TreeN H x f0 ls) {c:Nat} {K:Kid} (hc:ls[c]? = some K) (hK0:0<K.es.length) {s2:Nat}
 (h2:s2=0∨∃ K2,ls[c+1]? = some K2∧K2.es.length=s2∧0<s2∧∀ j q,(kvs K2.es)[j]? = some q→T.val (300+j)=q.1∧T.val (350+j)=q.2) (hm:ls.length≤90)
 (hf:T.val 600=f0) (hfs:∀ i L,ls[i]? = some L→T.val (400+i)=L.f∧T.val (500+i)=L.pl) (hv:∀ j q,(kvs K.es)[j]? = some q→T.val (100+j)=q.1∧T.val (200+j)=q.2) (hheld:∀ b o,T.hold b=some o→w.heap[b]? = some o) :
 ∃ φ,@Rel T P φ (zAe G 0 .none (treeN G ls.length c K.es.length s2)) w∧Tells φ (zAe G 0 .none (treeN G ls.length c K.es.length s2)) H w∧φ (G+1)=some x:=by
 obtain ⟨chl,t1,t2,t3⟩:=h
 have hcl:c<ls.length:=by
  rcases Nat.lt_or_ge c ls.length with h|h
  · exact h
  · rw[List.getElem?_eq_none h] at hc; cases hc
 rcases t2 with ⟨e,_⟩|⟨y,cap,k1,k2,k3,k4,k5,k6⟩
 · omega
 have hK:=t3 K (List.mem_of_getElem? hc)
 rcases hK.2.1 with ⟨e,_⟩|⟨r,rcap,r1,r2,r3,r4,r5,r6⟩
 · omega
 have hnext:∃ (zs:List Img),zs.length=(oneOr s2 (.cells true (rowT 300 350 (natL s2 0)))).length∧(∀ z,z∈zs→z.1<w.heap.size∧w.heap[z.1]? = H z.1)∧(s2=0∨∃ K2 z zcap,ls[c+1]? = some K2∧K2.es.length=s2∧zs=[z]∧K2.pl=.slice (some ⟨z.1,z.2.1,none⟩) s2 zcap∧s2≤zcap∧z.2.1+zcap*2≤z.2.2∧zAi H z (flat (kvs K2.es))∧
  ∀ j q,(kvs K2.es)[j]? = some q→T.val (300+j)=q.1∧T.val (350+j)=q.2):=by
  rcases h2 with rfl|⟨K2,g1,rfl,g3,g4⟩
  · exact ⟨[],rfl,fun z h=>(by cases h),.inl rfl⟩
  · have hK2:=t3 K2 (List.mem_of_getElem? g1)
    rcases hK2.2.1 with ⟨e,_⟩|⟨z,zcap,z1,z2,z3,z4,z5,z6⟩
    · omega
    · refine ⟨[z],?_,fun z' h=>by rw[List.mem_singleton] at h; subst h; exact ⟨z6.lt hH,z6.img hH⟩,.inr ⟨K2,z,zcap,g1,rfl,rfl,z3,z4,z5,z6,g4⟩⟩
      cases hn:K2.es.length with
      |zero=>omega
      |succ n=>rfl
 obtain ⟨zs,hzl,hzlt,hz⟩:=hnext
 let imgs:List Img:=x::y::(ls.map (·.x)++r::zs)
 have hil:imgs.length=3+ls.length+zs.length:=by simp[imgs]; omega
 have hφ1:ZAh G imgs (G+1)=some x:=by rw[ZBi (i:=0)]; rfl
 have hφ2:ZAh G imgs (G+2)=some y:=by rw[show G+2=G+1+1 by omega,ZBi (i:=1)]; rfl
 have hφk:∀ i L,ls[i]? = some L→ZAh G imgs (G+3+i)=some L.x:=by
  intro i L hi
  have hlt:i<ls.length:=by
   rcases Nat.lt_or_ge i ls.length with h|h
   · exact h
   · rw[List.getElem?_eq_none h] at hi; cases hi
  rw[show G+3+i=G+1+(i+2) by omega,ZBi]
  show (ls.map (·.x)++r::zs)[i]? = _
  rw[List.getElem?_append_left (by simpa using hlt),List.getElem?_map,hi]; rfl
 have hφr:ZAh G imgs (G+3+ls.length)=some r:=by
  rw[show G+3+ls.length=G+1+(ls.length+2) by omega,ZBi]
  show (ls.map (·.x)++r::zs)[ls.length]? = _
  rw[List.getElem?_append_right (by simp)]; simp
 have hφz:∀ z,zs=[z]→ZAh G imgs (G+4+ls.length)=some z:=by
  intro z hz
  rw[show G+4+ls.length=G+1+(ls.length+3) by omega,ZBi]
  show (ls.map (·.x)++r::zs)[ls.length+1]? = _
  rw[List.getElem?_append_right (by simp)]
  simp[hz]
 have hzl1:zs.length≤1:=by rw[hzl]; cases s2<;>simp[oneOr]
 have himg:∀ z,z∈imgs→z.1<w.heap.size∧w.heap[z.1]? = H z.1:=by
  intro z hz'
  rcases List.mem_cons.1 hz' with rfl|hz'
  · exact ⟨t1.lt hH,t1.img hH⟩
  · rcases List.mem_cons.1 hz' with rfl|hz'
    · exact ⟨k6.lt hH,k6.img hH⟩
    · rcases List.mem_append.1 hz' with hz'|hz'
      · obtain ⟨L,hL,rfl⟩:=List.mem_map.1 hz'
        exact ⟨(t3 L hL).1.lt hH,(t3 L hL).1.img hH⟩
      · rcases List.mem_cons.1 hz' with rfl|hz'
        · exact ⟨r6.lt hH,r6.img hH⟩
        · exact hzlt z hz'
 refine ⟨ZAh G imgs,?_,tells_mk h0 (by rw[treeN_len,← hzl]; omega) (fun z hz'=>(himg z hz').2),hφ1⟩
 refine mkRel hG h0 hgs (by rw[treeN_len,hil,hzl]) (by rw[treeN_len,← hzl]; omega) treeN_ro (fun z hz'=>?_) (fun i b hb=>?_) hheld
 · exact (himg z hz').1
 · unfold treeN at hb
   match i,hb with
   |0,hb=>
    simp only[List.getElem?_cons_zero,Option.some.injEq] at hb
    subst hb
    refine zBy hH t1 hφ1 (@zAa.cons T _ _ _ _ _ (by rw[← hf]; exact @VRel.opq T _ 600) (@zAa.cons T _ _ _ _ _ (@VRel.nilslice T _) (@zAa.cons T _ _ _ _ _ ?_ (@zAa.nil T _)))) ?_
    · rw[k3]
      exact @VRel.slice T _ (G+2) 0 ls.length ls.length false 1 y.1 y.2.1 y.2.2 y.2.1 cap hφ2 (Nat.le_refl _) k4 (fun h=>by cases h) (fun _=>rfl) k5
    · intro v hv
      simp only[List.mem_cons,List.not_mem_nil,or_false] at hv
      rcases hv with rfl|rfl|rfl<;>rfl
   |1,hb=>
    simp only[List.getElem?_cons_succ,List.getElem?_cons_zero,Option.some.injEq] at hb
    subst hb
    have hp:=ptrsL_rel (T:=T) (φ:=ZAh G imgs) (ls.map (·.x)) (G+3) (fun j z hj=>by
     rw[List.getElem?_map] at hj
     cases hL:ls[j]? with
     |none=>rw[hL] at hj; cases hj
     |some L=>rw[hL] at hj; cases hj; exact hφk j L hL)
    rw[List.length_map,List.map_map] at hp
    exact zBy hH k6 (by rw[ZBi (i:=1)]; rfl) hp fun v hv=>ptrsL_cell hv
   |i+2,hb=>
    simp only[List.getElem?_cons_succ] at hb
    rw[zCk,kidsL_len] at hb
    by_cases hi:i<ls.length
    · rw[if_pos hi,kidsL_get,if_pos hi,Nat.zero_add,Option.some.injEq] at hb
      subst hb
      have hLi:=List.getElem?_eq_getElem hi
      have hKi:=t3 _ (List.getElem_mem hi)
      obtain ⟨f1,f2⟩:=hfs i _ hLi
      have himg:ZAh G imgs (G+1+(i+2))=some (ls[i]).x:=by rw[← hφk i _ hLi]; congr 1; omega
      have hcellB:∀ pa:AVal,pa.isCell=true→@VRel T (ZAh G imgs) pa (ls[i]).pl→@BRel T (ZAh G imgs) w (G+1+(i+2)) (leafB (.opq (400+i)) pa):=by
       intro pa hpc hpa
       refine zBy hH hKi.1 himg (@zAa.cons T _ _ _ _ _ (by rw[← f1]; exact @VRel.opq T _ (400+i)) (@zAa.cons T _ _ _ _ _ hpa (@zAa.cons T _ _ _ _ _ (@VRel.nilslice T _) (@zAa.nil T _)))) ?_
       intro v hv
       simp only[List.mem_cons,List.not_mem_nil,or_false] at hv
       rcases hv with rfl|rfl|rfl
       · rfl
       · exact hpc
       · rfl
      have far:@BRel T (ZAh G imgs) w (G+1+(i+2)) (leafB (.opq (400+i)) (.opq (500+i))):=hcellB _ rfl (by rw[← f2]; exact @VRel.opq T _ (500+i))
      have hrv:∀ (A n:Nat) (z:Img) (zc:Nat),0<n→(ls[i]).pl=.slice (some ⟨z.1,z.2.1,none⟩) n zc→n≤zc→z.2.1+zc*2≤z.2.2→ZAh G imgs A=some z→@VRel T (ZAh G imgs) (rowV A n) (ls[i]).pl∧(rowV A n).isCell=true:=by
       intro A n z zc hn e1 e2 e3 e4
       cases n with
       |zero=>omega
       |succ n=>
        rw[e1]
        exact ⟨@VRel.slice T _ A 0 (n+1) (n+1) false 2 z.1 z.2.1 z.2.2 z.2.1 zc e4 (Nat.le_refl _) e2 (fun h=>by cases h) (fun _=>rfl) e3,rfl⟩
      unfold kidB
      simp only[zAn]
      split
      · rename_i hic
        have hic':=beq_true.1 hic
        subst hic'
        rw[hLi] at hc
        cases hc
        obtain ⟨g1,g2⟩:=hrv (G+3+ls.length) _ r rcap hK0 r3 r4 r5 hφr
        exact hcellB _ g2 g1
      · split
        · rename_i hin
          simp only[Bool.and_eq_true,beq_true,zAd] at hin
          obtain ⟨rfl,hs1⟩:=hin
          rcases hz with e|⟨K2,z,zcap,e1,e2,e3,e4,e5,e6,e7,e8⟩
          · omega
          · rw[hLi] at e1
            cases e1
            obtain ⟨g1,g2⟩:=hrv (G+4+ls.length) s2 z zcap hs1 e4 e5 e6 (hφz z e3)
            exact hcellB _ g2 g1
        · exact far
    · rw[if_neg hi] at hb
      cases hd:i-ls.length with
      |zero=>
       rw[hd] at hb
       simp only[List.getElem?_cons_zero,Option.some.injEq] at hb
       subst hb
       have hrow:=rowT_rel (T:=T) (φ:=ZAh G imgs) (kb:=100) (vb:=200) (kvs K.es) 0 fun j p hj=>by rw[Nat.zero_add]; exact hv j p hj
       rw[ZBe] at hrow
       exact zBy hH r6 (by rw[← hφr]; congr 1; omega) hrow fun v hv=>rowT_cell hv
      |succ d=>
       rw[hd,List.getElem?_cons_succ] at hb
       rcases hz with rfl|⟨K2,z,zcap,e1,e2,e3,e4,e5,e6,e7,e8⟩
       · simp[oneOr] at hb
       · cases hs2:s2 with
         |zero=>rw[hs2] at hb; simp[oneOr] at hb
         |succ n=>
          rw[hs2] at hb
          have hone:oneOr (n+1) (.cells true (rowT 300 350 (natL (n+1) 0)))=[.cells true (rowT 300 350 (natL (n+1) 0))]:=rfl
          rw[hone] at hb
          cases d with
          |zero=>
           simp only[List.getElem?_cons_zero,Option.some.injEq] at hb
           subst hb
           have hrow:=rowT_rel (T:=T) (φ:=ZAh G imgs) (kb:=300) (vb:=350) (kvs K2.es) 0 fun j p hj=>by rw[Nat.zero_add]; exact e8 j p hj
           rw[ZBe,e2,hs2] at hrow
           exact zBy hH e7 (by rw[← hφz z e3]; congr 1; omega) hrow fun v hv=>rowT_cell hv
          |succ d=>simp at hb
end Go.AM
namespace Go.AM
variable {P:Program}
def insE:Nat→Ent→List Ent→List Ent
 |0,e,l=>e::l
 |p+1,e,a::l=>a::insE p e l
 |_+1,_,[]=>[]
theorem insE_kvs:∀ (p:Nat) (e:Ent) (es:List Ent),kvs (insE p e es)=insAt p (e.k,e.v) (kvs es)
 |0,_,_=>rfl
 |p+1,e,a::l=>by show (a.k,a.v)::kvs (insE p e l)=(a.k,a.v)::insAt p (e.k,e.v) (kvs l); rw[insE_kvs p e l]
 |_+1,_,[]=>rfl
theorem insE_len {p:Nat} {e:Ent} {es:List Ent} (hp:p≤es.length):(insE p e es).length=es.length+1:=by
 have:=insAt_len (p:=p) (e:=(e.k,e.v)) (l:=kvs es) (by rw[ZBe]; exact hp)
 rw[← insE_kvs,ZBe,ZBe] at this; exact this
theorem insE_mem {x:Ent}:∀ {p:Nat} {e:Ent} {es:List Ent},x∈insE p e es→x=e∨x∈es
 |0,e,es,h=>by
  rcases List.mem_cons.1 h with rfl|h
  · exact .inl rfl
  · exact .inr h
 |p+1,e,a::l,h=>by
  rcases List.mem_cons.1 h with rfl|h
  · exact .inr (List.mem_cons_self ..)
  · rcases insE_mem h with h|h
    · exact .inl h
    · exact .inr (List.mem_cons_of_mem _ h)
 |_+1,_,[],h=>by cases h
theorem kvs_take (n:Nat) (es:List Ent):kvs (es.take n)=(kvs es).take n:=by unfold kvs; rw[List.map_take]
theorem kvs_drop (n:Nat) (es:List Ent):kvs (es.drop n)=(kvs es).drop n:=by unfold kvs; rw[List.map_drop]
def sig (K:Kid):Value×List Ent:=(K.f,K.es)
theorem farL_len:∀ n a:Nat,(farL (natL n a)).length=n
 |0,_=>rfl
 |n+1,a=>by show (farL (natL n (a+1))).length+1=_; rw[farL_len n (a+1)]
theorem farL_get:∀ (n a i:Nat),(farL (natL n a))[i]? = if i<n then some (farB (a+i)) else none
 |0,a,i=>by show (([]:List Blk))[i]? = _; rw[if_neg (by omega)]; rfl
 |n+1,a,0=>by show some (farB a)=_; rw[if_pos (by omega)]; rfl
 |n+1,a,i+1=>by
  show (farB a::farL (natL n (a+1)))[i+1]? = _
  rw[List.getElem?_cons_succ,farL_get n (a+1) i,show a+1+i=a+(i+1) by omega]
  simp only[Nat.add_lt_add_iff_right]
theorem ptrsL_vals {T:Tok} {φ:Phi}:∀ (xs:List Img) (a:Nat) (vs:List Value),@zAa T φ (ptrsL xs.length a) vs→(∀ j x,xs[j]? = some x→φ (a+j)=some x)→vs=xs.map ptrV
 | [],_,_,h,_=>by cases h; rfl
 |x::xs,a,vs,h,hx=>by
  have h':@zAa T φ (.ptr a 0::ptrsL xs.length (a+1)) vs:=h
  cases h' with
  |cons h1 h2=>
   have ih:=ptrsL_vals xs (a+1) _ h2 fun j y hy=>by
    have:=hx (j+1) y (by rw[List.getElem?_cons_succ]; exact hy)
    rwa [show a+(j+1)=a+1+j by omega] at this
   have h0:=hx 0 x rfl
   rw[Nat.add_zero] at h0
   cases h1 with
   |ptr _ _ cb co sz hφ=>
    rw[h0] at hφ
    cases hφ
    rw[ih]; rfl
theorem leafAt_kid {H:Heap} {x:Img} {f:Value} {es:List Ent} (h:LeafAt H x f (kvs es)) (he:∀ e,e∈es→EntOk H e) (hf:∃ fb,zAy H f fb):∃ K:Kid,K.x=x∧sig K=(f,es)∧KidAt H K:=by
 obtain ⟨pl,h1,h2⟩:=h
 rw[ZBe] at h2
 exact ⟨⟨x,f,pl,es⟩,rfl,rfl,h1,h2,he,hf⟩
theorem far_kids {T:Tok} {m:Mem} {φ:Phi} {w:World} {H:Heap} (hI:Tells φ m H w) (hr:@Rel T P φ m w):∀ (Ls:List Kid) (i0 a:Nat),(∀ j L,Ls[j]? = some L→a+j<m.next∧m.get (a+j)=farB (i0+j)∧T.val (400+(i0+j))=L.f∧T.val (500+(i0+j))=L.pl∧KidAt H L)→
 ∃ Ks:List Kid,Ks.map sig=Ls.map sig∧(∀ K,K∈Ks→KidAt H K)∧∀ j K,Ks[j]? = some K→φ (a+j)=some K.x
 | [],_,_,_=>⟨[],rfl,fun K h=>(by cases h),fun j K h=>(by simp at h)⟩
 |L::Ls,i0,a,h=>by
  obtain ⟨Ks,g1,g2,g3⟩:=far_kids hI hr Ls (i0+1) (a+1) fun j M hM=>by
   have:=h (j+1) M (by rw[List.getElem?_cons_succ]; exact hM)
   rwa [show a+(j+1)=a+1+j by omega,show i0+(j+1)=i0+1+j by omega] at this
  obtain ⟨h1,h2,h3,h4,h5⟩:=h 0 L rfl
  rw[Nat.add_zero] at h1 h2 h3 h4
  obtain ⟨x,vs,k1,k2,k3⟩:=ZBd hI hr h1 h2
  cases k3 with
  | @cons _ f _ _ e1 e2=>
  cases e2 with
  | @cons _ pl _ _ e3 e4=>
  cases e4 with
  | @cons _ z _ _ e5 e6=>
  cases e6
  cases e5
  have e1':@VRel T φ (.opq (400+i0)) f:=e1
  have e3':@VRel T φ (.opq (500+i0)) pl:=e3
  have hf:f=L.f:=by cases e1'; exact h3
  have hpl:pl=L.pl:=by cases e3'; exact h4
  subst hf
  subst hpl
  refine ⟨{ L with x:=x }::Ks,by simp only[List.map_cons,g1]; rfl,fun K hK=>?_,fun j K hK=>?_⟩
  · rcases List.mem_cons.1 hK with rfl|hK
    · exact ⟨k2,h5.2⟩
    · exact g2 K hK
  · match j,hK with
    |0,hK=>
     simp only[List.getElem?_cons_zero,Option.some.injEq] at hK
     subst hK
     exact k1
    |j+1,hK=>
     rw[List.getElem?_cons_succ] at hK
     have:=g3 j K hK
     rwa [show a+1+j=a+(j+1) by omega] at this
def zCh (f:Value) (es:List Ent):List (Value×List Ent):=if es.length≤16 then [(f,es)] else [(f,es.take 8),(keyV es 8,es.drop 8)]
theorem endN_get {G m c s p:Nat} (hc:c<m):(endN G m c s p)[0]? = some (.cells true [.ptr (G+2) 0])∧(endN G m c s p)[1]? = some (.cells true [.opq 600,.nilslice,.slice (G+3) 0 (endM m s) (endM m s) false 1])∧
 (endN G m c s p)[2]? = some (.cells true (ptrsL (endM m s) (G+4)))∧(∀ i,i<c→(endN G m c s p)[3+i]? = some (farB i))∧
 (∀ j,j<(ZAn (G+4+endM m s) (.opq (400+c)) s p).length→(endN G m c s p)[3+c+j]? = (ZAn (G+4+endM m s) (.opq (400+c)) s p)[j]?)∧
 (∀ j,j<m-(c+1)→(endN G m c s p)[3+c+(ZAn (G+4+endM m s) (.opq (400+c)) s p).length+j]? = some (farB (c+1+j)))∧
 (endN G m c s p)[3+c+(ZAn (G+4+endM m s) (.opq (400+c)) s p).length+(m-(c+1))]? = some (.cells true (newR s p))∧(endN G m c s p).length=4+c+(ZAn (G+4+endM m s) (.opq (400+c)) s p).length+(m-(c+1)):=by
 generalize hN:ZAn (G+4+endM m s) (.opq (400+c)) s p=N
 have he:endN G m c s p=.cells true [.ptr (G+2) 0]::.cells true [.opq 600,.nilslice,.slice (G+3) 0 (endM m s) (endM m s) false 1]::.cells true (ptrsL (endM m s) (G+4)) ::
  ZCa (farL (natL c 0)) (ZCa N (ZCa (farL (natL (m-(c+1)) (c+1))) [.cells true (newR s p)])):=by rw[← hN]; rfl
 rw[he]
 refine ⟨rfl,rfl,rfl,fun i hi=>?_,fun j hj=>?_,fun j hj=>?_,?_,?_⟩
 · rw[show 3+i=i+3 by omega]
   simp only[List.getElem?_cons_succ]
   rw[zCk,farL_len,if_pos hi,farL_get,if_pos hi,Nat.zero_add]
 · rw[show 3+c+j=c+j+3 by omega]
   simp only[List.getElem?_cons_succ]
   rw[zCk,farL_len,if_neg (by omega),show c+j-c=j by omega,zCk,if_pos hj]
 · rw[show 3+c+N.length+j=c+N.length+j+3 by omega]
   simp only[List.getElem?_cons_succ]
   rw[zCk,farL_len,if_neg (by omega),show c+N.length+j-c=N.length+j by omega,zCk,if_neg (by omega),show N.length+j-N.length=j by omega,zCk,farL_len,if_pos hj,farL_get,if_pos hj]
 · rw[show 3+c+N.length+(m-(c+1))=c+N.length+(m-(c+1))+3 by omega]
   simp only[List.getElem?_cons_succ]
   rw[zCk,farL_len,if_neg (by omega),show c+N.length+(m-(c+1))-c=N.length+(m-(c+1)) by omega,zCk,if_neg (by omega),show N.length+(m-(c+1))-N.length=m-(c+1) by omega,zCk,farL_len,if_neg (by omega),Nat.sub_self]
   rfl
 · simp only[List.length_cons,appBs_len,farL_len,List.length_nil]
   omega
end Go.AM
namespace Go.AM
variable {P:Program}
theorem insE_sub {H:Heap} {p:Nat} {e:Ent} {es:List Ent} (he:EntOk H e) (h:∀ e,e∈es→EntOk H e):∀ x,x∈insE p e es→EntOk H x:=fun x hx=>by
 rcases insE_mem hx with rfl|hx
 · exact he
 · exact h x hx
theorem new_kids {T:Tok} {m:Mem} {φ:Phi} {w:World} {H:Heap} (hI:Tells φ m H w) (hr:@Rel T P φ m w) {a A s p:Nat} {fa:AVal} {f:Value} {es:List Ent} (hs:es.length=s+1) (hs16:s≤16) (hA:A<m.next) (hgA:m.get A=.cells true (newR s p)) (hL:∀ φ,@zAa T φ (newR s p) (flat (kvs es)))
 (hLo:∀ v,v∈newR s p→isOpqB v=true) (hf:∀ c,@VRel T φ fa c→c=f) (hfb:∃ fb,zAy H f fb) (he:∀ e,e∈es→EntOk H e)
 (hg:∀ j,j<(ZAn A fa s p).length→a+j<m.next∧(ZAn A fa s p)[j]? = some (m.get (a+j))) :
 ∃ Ks:List Kid,Ks.map sig=zCh f es∧(∀ K,K∈Ks→KidAt H K)∧(∀ j K,Ks[j]? = some K→φ (a+j)=some K.x)∧Ks.length=(ZAn A fa s p).length:=by
 have hkl:(kvs es).length=s+1:=by rw[ZBe,hs]
 cases hs15:Nat.ble s 15 with
 |true=>
  have hs':=zAd.1 hs15
  have hN:ZAn A fa s p=[leafB fa (.slice A 0 (s+1) (s+1) false 2)]:=by unfold ZAn; rw[hs15]; rfl
  rw[hN] at hg ⊢
  obtain ⟨g1,g2⟩:=hg 0 (Nat.succ_pos _)
  simp only[List.getElem?_cons_zero,Option.some.injEq,Nat.add_zero] at g1 g2
  obtain ⟨x,f1,k1,k2,k3⟩:=leafOf (d:=0) (n:=s+1) hI hr g1 hA g2.symm hgA hL hLo (by omega) (by omega)
  have hf1:=hf f1 k3
  subst hf1
  rw[List.drop_zero,List.take_of_length_le (by omega)] at k2
  obtain ⟨K,q1,q2,q3⟩:=leafAt_kid k2 he hfb
  refine ⟨[K],?_,fun K' h=>by rw[List.mem_singleton] at h; subst h; exact q3,fun j K' h=>?_,rfl⟩
  · unfold zCh
    rw[if_pos (by omega)]
    simp[q2]
  · match j,h with
    |0,h=>
     simp only[List.getElem?_cons_zero,Option.some.injEq] at h
     subst h
     rw[q1]; exact k1
    |j+1,h=>simp at h
 |false=>
  have hs':=zBj.1 hs15
  have hN:ZAn A fa s p=[leafB fa (.slice A 0 8 8 false 2),leafB (keyAt 8 (newR s p)) (.slice A 16 9 9 false 2)]:=by unfold ZAn; rw[hs15]; rfl
  rw[hN] at hg ⊢
  obtain ⟨g1,g2⟩:=hg 0 (Nat.succ_pos _)
  obtain ⟨h1,h2⟩:=hg 1 (Nat.le_refl 2)
  simp only[List.getElem?_cons_zero,Option.some.injEq,Nat.add_zero] at g1 g2
  simp only[List.getElem?_cons_succ,List.getElem?_cons_zero,Option.some.injEq] at h2
  obtain ⟨x,f1,k1,k2,k3⟩:=leafOf (d:=0) (n:=8) hI hr g1 hA g2.symm hgA hL hLo (by omega) (by omega)
  obtain ⟨y,f2,l1,l2,l3⟩:=leafOf (d:=8) (n:=9) hI hr h1 hA h2.symm hgA hL hLo (by omega) (by omega)
  have hf1:=hf f1 k3
  subst hf1
  obtain ⟨pr,hp1,hp2⟩:=keyAt_rel 8 _ (kvs es) (hL φ) (by omega)
  have hf2:f2=pr.1:=opq_val (keyAt_opq' 8 _ (kvs es) (hL φ) hLo (by omega)) l3 hp2
  have hpk:keyV es 8=pr.1:=(kvs_get hp1).1
  rw[List.drop_zero,← kvs_take] at k2
  rw[List.take_of_length_le (by rw[List.length_drop]; omega),← kvs_drop] at l2
  obtain ⟨K,q1,q2,q3⟩:=leafAt_kid k2 (fun e h=>he e (List.mem_of_mem_take h)) hfb
  have h8:8<es.length:=by omega
  have hpe:pr.1=es[8].k:=by rw[← hpk]; unfold keyV; rw[List.getElem?_eq_getElem h8]; rfl
  obtain ⟨K2,r1,r2,r3⟩:=leafAt_kid l2 (fun e h=>he e (List.mem_of_mem_drop h)) ⟨_,by rw[hf2,hpe]; exact (he _ (List.getElem_mem h8)).1⟩
  refine ⟨[K,K2],?_,fun K' h=>?_,fun j K' h=>?_,rfl⟩
  · unfold zCh
    rw[if_neg (by omega)]
    simp[q2,r2,hf2,hpk]
  · simp only[List.mem_cons,List.not_mem_nil,or_false] at h
    rcases h with rfl|rfl
    · exact q3
    · exact r3
  · match j,h with
    |0,h=>
     simp only[List.getElem?_cons_zero,Option.some.injEq] at h
     subst h
     rw[q1]; exact k1
    |1,h=>
     simp only[List.getElem?_cons_succ,List.getElem?_cons_zero,Option.some.injEq] at h
     subst h
     rw[r1]; exact l1
    |j+2,h=>simp at h
theorem newLeaves_len {A s p:Nat} {fa:AVal}:(ZAn A fa s p).length=zCb s:=by
 unfold ZAn zCb
 cases Nat.ble s 15<;>rfl
theorem endN_parts {T:Tok} {G:Nat} (h0:0<G) (hGb:G≤60000) {φ:Phi} {w:World} {H:Heap} {m c s p:Nat} (hI:Tells φ (zAe G 0 .none (endN G m c s p)) H w) (hr:@Rel T P φ (zAe G 0 .none (endN G m c s p)) w) {ls:List Kid} (hm:ls.length=m) (hm2:m≤90) {K:Kid} (hc:ls[c]? = some K) (hs:K.es.length=s) (hs16:s≤16) (hp:p≤s) {e:Ent}
 (hfs:∀ i L,ls[i]? = some L→T.val (400+i)=L.f∧T.val (500+i)=L.pl) (hL:∀ φ,@zAa T φ (newR s p) (flat (kvs (insE p e K.es)))) (hLo:∀ v,v∈newR s p→isOpqB v=true) (hk:∀ L,L∈ls→KidAt H L) (he:EntOk H e)
 {sl:Value} (hsl:@VRel T φ (.slice (G+1) 0 1 1 false 1) sl):∃ x ks,ZAk H 1 sl 1 [ptrV x]∧TreeN H x (T.val 600) ks∧ks.map sig=(ls.take c).map sig++zCh K.f (insE p e K.es)++(ls.drop (c+1)).map sig:=by
 have hcl:c<m:=by
  rw[← hm]
  rcases Nat.lt_or_ge c ls.length with h|h
  · exact h
  · rw[List.getElem?_eq_none h] at hc; cases hc
 obtain ⟨z0,z1,z2,z3,z4,z5,z6,z7⟩:=endN_get (G:=G) (s:=s) (p:=p) hcl
 have hpn:zCb s=1∨zCb s=2:=by unfold zCb; cases Nat.ble s 15<;>simp[zAn]
 have hNl:(ZAn (G+4+endM m s) (.opq (400+c)) s p).length=zCb s:=newLeaves_len
 have hE:endM m s=m-1+zCb s:=rfl
 rw[hNl] at z5 z6 z7
 have hb:G+1+(endN G m c s p).length≤65536:=by rw[z7]; omega
 have hKk:=hk K (List.mem_of_getElem? hc)
 obtain ⟨a1,a2⟩:=ZAu (G:=G) h0 hb z0
 obtain ⟨b1,b2⟩:=ZAu (G:=G) h0 hb z1
 obtain ⟨c1,c2⟩:=ZAu (G:=G) h0 hb z2
 obtain ⟨r1,r2⟩:=ZAu (G:=G) h0 hb z6
 have hrow:G+1+(3+c+zCb s+(m-(c+1)))=G+4+endM m s:=by omega
 rw[hrow] at r1 r2
 obtain ⟨Ka,ka1,ka2,ka3⟩:=far_kids hI hr (ls.take c) 0 (G+4) fun j L hj=>by
  rw[List.getElem?_take] at hj
  split at hj
  · rename_i hjc
    obtain ⟨d1,d2⟩:=ZAu (G:=G) h0 hb (z3 j hjc)
    obtain ⟨f1,f2⟩:=hfs j L hj
    rw[show G+1+(3+j)=G+4+j by omega] at d1 d2
    exact ⟨d1,by rw[Nat.zero_add]; exact d2,by rw[Nat.zero_add]; exact f1,by rw[Nat.zero_add]; exact f2,hk L (List.mem_of_getElem? hj)⟩
  · cases hj
 obtain ⟨Kn,kn1,kn2,kn3,kn4⟩:=new_kids (a:=G+4+c) (f:=K.f) (es:=insE p e K.es) hI hr (by rw[insE_len (by omega),hs]) hs16 r1 r2 hL hLo (fun cc hcc=>by
  have hcc':@VRel T φ (.opq (400+c)) cc:=hcc
  cases hcc'; exact (hfs c K hc).1) hKk.2.2.2 (insE_sub he hKk.2.2.1) (fun j hj=>by
  obtain ⟨d1,d2⟩:=ZAu (G:=G) h0 hb (i:=3+c+j) (b:=(ZAn (G+4+endM m s) (.opq (400+c)) s p)[j]'hj) (by rw[z4 j hj,List.getElem?_eq_getElem hj])
  rw[show G+1+(3+c+j)=G+4+c+j by omega] at d1 d2
  exact ⟨d1,by rw[d2,List.getElem?_eq_getElem hj]⟩)
 obtain ⟨Kb,kb1,kb2,kb3⟩:=far_kids hI hr (ls.drop (c+1)) (c+1) (G+4+c+zCb s) fun j L hj=>by
  rw[List.getElem?_drop] at hj
  have hjl:c+1+j<ls.length:=by
   rcases Nat.lt_or_ge (c+1+j) ls.length with h|h
   · exact h
   · rw[List.getElem?_eq_none h] at hj; cases hj
  obtain ⟨d1,d2⟩:=ZAu (G:=G) h0 hb (z5 j (by omega))
  obtain ⟨f1,f2⟩:=hfs _ L hj
  rw[show G+1+(3+c+zCb s+j)=G+4+c+zCb s+j by omega] at d1 d2
  exact ⟨d1,d2,f1,f2,hk L (List.mem_of_getElem? hj)⟩
 have hal:Ka.length=c:=by
  have:=congrArg List.length ka1
  simp only[List.length_map,List.length_take] at this
  omega
 have hbl:Kb.length=m-(c+1):=by
  have:=congrArg List.length kb1
  simp only[List.length_map,List.length_drop] at this
  omega
 rw[hNl] at kn4
 let ks:=Ka++Kn++Kb
 have hkl:ks.length=endM m s:=by simp only[ks,List.length_append]; omega
 have himg:∀ j L,ks[j]? = some L→φ (G+4+j)=some L.x:=by
  intro j L hj
  have hj':(Ka++Kn++Kb)[j]? = some L:=hj
  rw[List.append_assoc,List.getElem?_append] at hj'
  split at hj'
  · exact ka3 j L hj'
  · rw[List.getElem?_append] at hj'
    split at hj'
    · have:=kn3 _ L hj'
      rwa [show G+4+c+(j-Ka.length)=G+4+j by omega] at this
    · have:=kb3 _ L hj'
      rwa [show G+4+c+zCb s+(j-Ka.length-Kn.length)=G+4+j by omega] at this
 obtain ⟨y,us,u1,u2,u3⟩:=ZBd hI hr c1 c2
 have hus:us=(ks.map (·.x)).map ptrV:=by
  refine ptrsL_vals (T:=T) (φ:=φ) (ks.map (·.x)) (G+4) us (by rw[List.length_map,hkl]; exact u3) fun j x hj=>?_
  rw[List.getElem?_map] at hj
  cases hL':ks[j]? with
  |none=>rw[hL'] at hj; cases hj
  |some L=>rw[hL'] at hj; cases hj; exact himg j L hL'
 obtain ⟨x,vs,v1,v2,v3⟩:=ZBd hI hr b1 b2
 obtain ⟨y0,ws,w1,w2,w3⟩:=ZBd hI hr a1 a2
 cases w3 with
 | @cons _ pv _ _ g1 g2=>
 cases g2
 cases v3 with
 | @cons _ fv _ _ e1 e2=>
 cases e2 with
 | @cons _ nv _ _ e3 e4=>
 cases e4 with
 | @cons _ chl _ _ e5 e6=>
 cases e6
 cases e3
 cases e1
 cases g1 with
 |ptr _ _ cb co sz hφ=>
  have hφ':φ (G+1+1)=some (cb,co,sz):=hφ
  rw[v1] at hφ'
  cases hφ'
  cases hsl with
  |slice _ _ _ _ _ _ cb2 co2 sz2 o' cap' q1 q2 q3 q4 q5 q6=>
   have q1':φ (G+1+0)=some (cb2,co2,sz2):=q1
   rw[w1] at q1'
   cases q1'
   have ho:=q5 (by decide)
   refine ⟨(cb,co,sz),ks,.inr ⟨(cb2,co2,sz2),cap',Nat.succ_pos _,rfl,by rw[ho]; rfl,q3,by show co2+cap'*1≤sz2; omega,w2⟩,⟨chl,v2,?_,fun L hL=>?_⟩,?_⟩
   · cases e5 with
     |slice _ _ _ _ _ _ cb3 co3 sz3 o3 cap3 p1 p2 p3 p4 p5 p6=>
      have p1':φ (G+1+2)=some (cb3,co3,sz3):=p1
      rw[u1] at p1'
      cases p1'
      have ho3:=p5 (by omega)
      right
      refine ⟨(cb3,co3,sz3),cap3,by omega,by simp,by rw[ho3,hkl]; rfl,by omega,by show co3+cap3*1≤sz3; omega,?_⟩
      rw[hus,List.map_map] at u2
      exact u2
   · have hL':L∈Ka++Kn++Kb:=hL
     rcases List.mem_append.1 hL' with hL'|hL'
     · rcases List.mem_append.1 hL' with hL'|hL'
       · exact ka2 L hL'
       · exact kn2 L hL'
     · exact kb2 L hL'
   · show (Ka++Kn++Kb).map sig=_
     rw[List.map_append,List.map_append,ka1,kn1,kb1]
end Go.AM
namespace Go.AM
variable {P:Program}
def fsOf (ls:List Kid) (i:Nat):Value:=((ls[i]?).map (·.f)).getD nilS
def plsOf (ls:List Kid) (i:Nat):Value:=((ls[i]?).map (·.pl)).getD nilS
theorem fsOf_cell {H:Heap} {ls:List Kid} (h:∀ K,K∈ls→KidAt H K) (i:Nat):(fsOf ls i).oneCell'=true∧(plsOf ls i).oneCell'=true:=by
 unfold fsOf plsOf
 cases hi:ls[i]? with
 |none=>exact ⟨rfl,rfl⟩
 |some K=>
  obtain ⟨_,h2,_,fb,h4⟩:=h K (List.mem_of_getElem? hi)
  exact ⟨h4.cell,h2.cell⟩
@[reducible] def nTok (H:Heap) (k v f0:Value) (es es2:List Ent) (ls:List Kid) (h:∀ j,(ZAd k v f0 es es2 (fsOf ls) (plsOf ls) j).oneCell'=true):Tok:=tokB H (ZAd k v f0 es es2 (fsOf ls) (plsOf ls)) h
section
variable {k v f0:Value} {es es2:List Ent} {fs pls:Nat→Value}
theorem tv_key {j:Nat} (hj:j<100):ZAd k v f0 es es2 fs pls (100+j)=keyV es j:=by
 unfold ZAd
 rw[if_neg (by omega),if_neg (by omega),if_neg (by omega),if_pos (by omega),show 100+j-100=j by omega]
theorem tv_val {j:Nat} (hj:j<100):ZAd k v f0 es es2 fs pls (200+j)=valV es j:=by
 unfold ZAd
 rw[if_neg (by omega),if_neg (by omega),if_neg (by omega),if_neg (by omega),if_pos (by omega),show 200+j-200=j by omega]
theorem tv_key2 {j:Nat} (hj:j<50):ZAd k v f0 es es2 fs pls (300+j)=keyV es2 j:=by
 unfold ZAd
 rw[if_neg (by omega),if_neg (by omega),if_neg (by omega),if_neg (by omega),if_neg (by omega),if_pos (by omega),show 300+j-300=j by omega]
theorem tv_val2 {j:Nat} (hj:j<50):ZAd k v f0 es es2 fs pls (350+j)=valV es2 j:=by
 unfold ZAd
 rw[if_neg (by omega),if_neg (by omega),if_neg (by omega),if_neg (by omega),if_neg (by omega),if_neg (by omega),if_pos (by omega),show 350+j-350=j by omega]
theorem tv_f {j:Nat} (hj:j<100):ZAd k v f0 es es2 fs pls (400+j)=fs j:=by
 unfold ZAd
 rw[if_neg (by omega),if_neg (by omega),if_neg (by omega),if_neg (by omega),if_neg (by omega),if_neg (by omega),if_neg (by omega),if_pos (by omega),show 400+j-400=j by omega]
theorem tv_pl {j:Nat} (hj:j<100):ZAd k v f0 es es2 fs pls (500+j)=pls j:=by
 unfold ZAd
 rw[if_neg (by omega),if_neg (by omega),if_neg (by omega),if_neg (by omega),if_neg (by omega),if_neg (by omega),if_neg (by omega),if_neg (by omega),if_pos (by omega),show 500+j-500=j by omega]
end
theorem zAf {α:Type} {l:List α} {j:Nat} {x:α} (h:l[j]? = some x):j<l.length:=by
 rcases Nat.lt_or_ge j l.length with h1|h1
 · exact h1
 · rw[List.getElem?_eq_none h1] at h; cases h
def FirstsAt (H:Heap) (c:Nat) (kb:List UInt8) (ls:List Kid):Prop:=∀ i L,ls[i]? = some L→∃ fb,zAy H L.f fb∧(i≤c→lexC fb kb = -1)∧(c<i→lexC fb kb=1)
theorem cmpN {H:Heap} {k v f0:Value} {kb:List UInt8} {es es2:List Ent} {ls:List Kid} {c p:Nat} (hc:∀ j,(ZAd k v f0 es es2 (fsOf ls) (plsOf ls) j).oneCell'=true) (hk:zAy H k kb) (he:∀ e,e∈es→EntOk H e) (he2:∀ e,e∈es2→EntOk H e)
 (hS:Side p kb es) (hS2:Side 0 kb es2) (hp:p≤es.length) (hs:es.length≤16) (hs2:es2.length≤16) (hF:FirstsAt H c kb ls) (hm:ls.length≤90):CmpT (nTok H k v f0 es es2 ls hc) ls.length c es.length es2.length p:=by
 intro i t ht
 rw[tokSide_eq] at ht
 have key:∀ j,j<es.length→(j<p→t=true)→(p≤j→t=false)→i=100+j→∃ bs kb',zAy H (ZAd k v f0 es es2 (fsOf ls) (plsOf ls) i) bs∧zAy H k kb'∧lexC bs kb'=if t then -1 else 1:=by
  intro j hj h1 h2 e
  subst e
  have hge:=List.getElem?_eq_getElem hj
  refine ⟨es[j].kb,kb,?_,hk,?_⟩
  · rw[tv_key (by omega)]
    unfold keyV
    rw[hge]; exact (he _ (List.getElem_mem hj)).1
  · obtain ⟨s1,s2⟩:=hS j _ hge
    rcases Nat.lt_or_ge j p with h|h
    · rw[h1 h]; exact s1 h
    · rw[h2 h]; exact s2 h
 have key2:∀ j,j<es2.length→t=false→i=300+j→∃ bs kb',zAy H (ZAd k v f0 es es2 (fsOf ls) (plsOf ls) i) bs∧zAy H k kb'∧lexC bs kb'=if t then -1 else 1:=by
  intro j hj h1 e
  subst e
  have hge:=List.getElem?_eq_getElem hj
  refine ⟨es2[j].kb,kb,?_,hk,?_⟩
  · rw[tv_key2 (by omega)]
    unfold keyV
    rw[hge]; exact (he2 _ (List.getElem_mem hj)).1
  · obtain ⟨s1,s2⟩:=hS2 j _ hge
    rw[h1]; exact s2 (Nat.zero_le _)
 have key3:∀ j,j<ls.length→(j≤c→t=true)→(c<j→t=false)→i=400+j→∃ bs kb',zAy H (ZAd k v f0 es es2 (fsOf ls) (plsOf ls) i) bs∧zAy H k kb'∧lexC bs kb'=if t then -1 else 1:=by
  intro j hj h1 h2 e
  subst e
  have hge:=List.getElem?_eq_getElem hj
  obtain ⟨fb,g1,g2,g3⟩:=hF j _ hge
  refine ⟨fb,kb,?_,hk,?_⟩
  · rw[tv_f (by omega)]
    unfold fsOf
    rw[hge]; exact g1
  · rcases Nat.lt_or_ge c j with h|h
    · rw[h2 h]; exact g3 h
    · rw[h1 h]; exact g2 h
 show ∃ bs kb',zAy H (ZAd k v f0 es es2 (fsOf ls) (plsOf ls) i) bs∧zAy H k kb'∧_
 split at ht
 · cases ht
 · split at ht
   · split at ht
     · cases ht
       exact key (i-100) (by omega) (fun _=>rfl) (fun h=>by omega) (by omega)
     · split at ht
       · cases ht
         exact key (i-100) (by omega) (fun h=>by omega) (fun _=>rfl) (by omega)
       · cases ht
   · split at ht
     · cases ht
     · split at ht
       · split at ht
         · cases ht
           exact key2 (i-300) (by omega) rfl (by omega)
         · cases ht
       · split at ht
         · cases ht
         · split at ht
           · split at ht
             · cases ht
               exact key3 (i-400) (by omega) (fun _=>rfl) (fun h=>by omega) (by omega)
             · cases ht
               exact key3 (i-400) (by omega) (fun h=>by omega) (fun _=>rfl) (by omega)
           · cases ht
theorem nTok_facts {H:Heap} {k v f0:Value} {es es2:List Ent} {ls:List Kid} (hc:∀ j,(ZAd k v f0 es es2 (fsOf ls) (plsOf ls) j).oneCell'=true) (hs:es.length≤16) (hs2:es2.length≤16) (hm:ls.length≤90) :
 (nTok H k v f0 es es2 ls hc).val 600=f0∧(∀ i L,ls[i]? = some L→(nTok H k v f0 es es2 ls hc).val (400+i)=L.f∧(nTok H k v f0 es es2 ls hc).val (500+i)=L.pl)∧
 (∀ j q,(kvs es)[j]? = some q→(nTok H k v f0 es es2 ls hc).val (100+j)=q.1∧(nTok H k v f0 es es2 ls hc).val (200+j)=q.2)∧(∀ j q,(kvs es2)[j]? = some q→(nTok H k v f0 es es2 ls hc).val (300+j)=q.1∧(nTok H k v f0 es es2 ls hc).val (350+j)=q.2):=by
 refine ⟨rfl,fun i L hi=>?_,fun j q hj=>?_,fun j q hj=>?_⟩
 · have:=zAf hi
   refine ⟨(tv_f (by omega)).trans ?_,(tv_pl (by omega)).trans ?_⟩
   · unfold fsOf; rw[hi]; rfl
   · unfold plsOf; rw[hi]; rfl
 · have:=zAf hj
   rw[ZBe] at this
   obtain ⟨g1,g2⟩:=kvs_get hj
   exact ⟨(tv_key (by omega)).trans g1,(tv_val (by omega)).trans g2⟩
 · have:=zAf hj
   rw[ZBe] at this
   obtain ⟨g1,g2⟩:=kvs_get hj
   exact ⟨(tv_key2 (by omega)).trans g1,(tv_val2 (by omega)).trans g2⟩
theorem putN_ok {K:KH} {f G:Nat} (hG:P.globals.size=G) (h0:0<G) (hGb:G≤60000) {w:World} (hgs:G≤w.heap.size) {H:Heap} (hH:In H w) {x:Img} {f0:Value} {ls:List Kid} (h:TreeN H x f0 ls) {c:Nat} {Kc:Kid} (hc:ls[c]? = some Kc) {e:Ent} {p:Nat}
 (hK:∀ T:Tok,T.strong=true→CmpT T ls.length c Kc.es.length 0 p→@zBb T P K) (hrun:putNRun K f G 0 .none ls.length c Kc.es.length p=true) (hs0:0<Kc.es.length) (hs:Kc.es.length≤16) (hp:p≤Kc.es.length) (hm:ls.length≤90) (hf0:f0.oneCell'=true)
 (he:EntOk H e) (hS:Side p e.kb Kc.es) (hF:FirstsAt H c e.kb ls) :
 Ends P f #[ptrV x,.agg #[e.k,e.v]] w fun cv w'=>ZAb w w'∧∃ sl x' ks,cv=.tuple #[sl,.bool true]∧ZAk (upd H w w') 1 sl 1 [ptrV x']∧TreeN (upd H w w') x' f0 ks∧ks.map sig=(ls.take c).map sig++zCh Kc.f (insE p e Kc.es)++(ls.drop (c+1)).map sig:=by
 have hkids:∀ L,L∈ls→KidAt H L:=by obtain ⟨_,_,_,h3⟩:=h; exact h3
 have hKc:=hkids Kc (List.mem_of_getElem? hc)
 obtain ⟨hek,vb,hev⟩:=he
 have hcell:=tokVals_cell (es2:=[]) (fs:=fsOf ls) (pls:=plsOf ls) hek.cell hev.cell hf0 hKc.2.2.1 (fun e h=>by cases h) (fun i=>(fsOf_cell hkids i).1) (fun i=>(fsOf_cell hkids i).2)
 obtain ⟨q1,q2,q3,q4⟩:=nTok_facts (H:=H) hcell hs (Nat.zero_le _) hm
 have hCmp:=cmpN (c:=c) (p:=p) hcell hek hKc.2.2.1 (fun e h=>by cases h) hS (fun j e h=>by simp at h) hp hs (Nat.zero_le _) hF hm
 generalize hT:nTok H e.k e.v f0 Kc.es [] ls hcell=T at q1 q2 q3 q4 hCmp
 have hst:T.strong=true:=by rw[← hT]; rfl
 have t0:T.val 0=e.k:=by rw[← hT]; rfl
 have t1:T.val 1=e.v:=by rw[← hT]; rfl
 have hheld:∀ b o,T.hold b=some o→w.heap[b]? = some o:=by rw[← hT]; exact hH
 obtain ⟨φ,hr,hI,hφ⟩:=relN (T:=T) hG h0 hGb hgs hH h hc hs0 (s2:=0) (.inl rfl) hm q1 q2 q3 hheld
 have hargs:@zAa T φ (putArgs G) (#[ptrV x,.agg #[e.k,e.v]]:Array Value).toList:=by
  refine @zAa.cons T φ _ _ _ _ ?_ (@zAa.cons T φ _ _ _ _ ?_ (@zAa.nil T φ))
  · exact @VRel.ptr T φ (G+1) 0 x.1 x.2.1 x.2.2 hφ
  · refine @VRel.agg T φ [.opq 0,.opq 1] #[e.k,e.v] (@zAa.cons T φ _ _ _ _ (by rw[← t0]; exact @VRel.opq T φ 0) (@zAa.cons T φ _ _ _ _ (by rw[← t1]; exact @VRel.opq T φ 1) (@zAa.nil T φ))) (fun v hv=>?_)
    simp only[List.mem_cons,List.not_mem_nil,or_false] at hv
    rcases hv with rfl|rfl<;>rfl
 unfold putNRun at hrun
 split at hrun
 · rename_i y t m hq
   unfold putChk at hrun
   simp only[Bool.and_eq_true] at hrun
   obtain ⟨rfl,h1,h2⟩:=hrun
   have hro:∀ q,q<(zAe G 0 .none (treeN G ls.length c Kc.es.length 0)).next→((zAe G 0 .none (treeN G ls.length c Kc.es.length 0)).get q).wr=false:=
    zCc h0 (by rw[treeN_len]; show G+1+(3+ls.length+0)≤_; omega) rfl treeN_ro
   refine (hK T hst hCmp f _ _ _ m hq φ w _ hr hargs).mono fun cv w' ⟨φ',hstp,hvc⟩=>?_
   have hleft:=ZAb.of hstp hro
   refine ⟨hleft,?_⟩
   cases hvc with
   |tuple _ cs hcs=>
   generalize hcl:cs.toList=L at hcs
   cases hcs with
   | @cons _ sl _ _ g1 g2=>
   cases g2 with
   |cons g3 g4=>
   cases g4
   cases g3
   obtain ⟨r1,r2⟩:=idRel (T:=T) hst hG (@Step.rel T P _ _ _ _ _ _ hstp) h2
   have hsl:=r2 _ _ (absN_up h1) _ g1
   have hnew:∀ φ,@zAa T φ (newR Kc.es.length p) (flat (kvs (insE p e Kc.es))):=fun φ=>by
    have:=insR_rel (T:=T) (φ:=φ) (kb:=100) (vb:=200) t0 t1 p (kvs Kc.es) 0 (by rw[ZBe]; exact hp) fun j q hj=>by rw[Nat.zero_add]; exact q3 j q hj
    rw[ZBe,← insE_kvs] at this; exact this
   obtain ⟨x',ks,k1,k2,k3⟩:=endN_parts (T:=T) h0 hGb (tells_step hstp hro hI h2) r1 rfl hm hc rfl hs hp q2 hnew (fun v hv=>insR_opq p _ (fun v hv=>rowT_opq hv) v hv) (fun L hL=>(hkids L hL).mono (upd_mono hH)) (EntOk.mono ⟨hek,vb,hev⟩ (upd_mono hH)) hsl
   rw[q1] at k2
   exact ⟨sl,x',ks,by congr 1; rw[← Array.toList_inj]; exact hcl,k1,k2,k3⟩
 · cases hrun
end Go.AM
namespace Go.AM
variable {P:Program}
def Told (cv:Value) (r:Option Ent):Prop:=match r with
 |some e=>cv=.tuple #[.agg #[e.k,e.v],.bool true]
 |none=>∃ a b,cv=.tuple #[.agg #[a,b],.bool false]∧a.oneCell'=true∧b.oneCell'=true
theorem pairChk_ok {T:Tok} {φ:Phi} {k v:Nat} {ok:Bool} {r:R} {m:Mem} {av:AVal} (h:pairChk k v ok r=true) (hr:r=.ok av m) {cv:Value} (hv:@VRel T φ av cv) {o:Option Ent} (ho:ok=true→∃ e,o=some e∧T.val k=e.k∧T.val v=e.v) (hn:ok=false→o=none):Told cv o:=by
 subst hr
 unfold pairChk at h
 split at h
 · rename_i a b t _ heq
   cases heq
   cases hv with
   |tuple _ cs hcs=>
   generalize hcl:cs.toList=L at hcs
   cases hcs with
   | @cons _ pr _ _ g1 g2=>
   cases g2 with
   |cons g3 g4=>
   cases g4
   cases g3
   cases g1 with
   |agg _ ds hds hcell=>
   have hpl:=@zAa.plain T φ _ _ hds hcell
   generalize hdl:ds.toList=D at hds
   cases hds with
   | @cons _ ca _ _ d1 d2=>
   cases d2 with
   | @cons _ cb _ _ d3 d4=>
   cases d4
   have e1:cs=#[.agg ds,.bool t]:=by rw[← Array.toList_inj]; exact hcl
   have e2:ds=#[ca,cb]:=by rw[← Array.toList_inj]; exact hdl
   subst e1
   subst e2
   rw[zAn] at h
   split at h
   · rename_i hok
     simp only[Bool.and_eq_true] at h
     obtain ⟨rfl,h2,h3⟩:=h
     obtain ⟨e,rfl,k1,k2⟩:=ho hok
     have f1:=@ZAf tok0 2 _ _ h2
     have f2:=@ZAf tok0 2 _ _ h3
     subst f1
     subst f2
     cases d1
     cases d3
     show _=_
     rw[k1,k2]
   · rename_i hok
     rw[hn (by simpa using hok)]
     cases t with
     |false=>exact ⟨ca,cb,rfl,hpl ca (by simp),hpl cb (by simp)⟩
     |true=>cases h
 · cases h
end Go.AM
namespace Go.AM
theorem lexC_refl:∀ a:List UInt8,lexC a a=0
 | []=>rfl
 |x::a=>by show (if x=x then lexC a a else _)=0; rw[if_pos rfl,lexC_refl a]
theorem lexC_cases:∀ a b:List UInt8,lexC a b = -1∨lexC a b=0∧a=b∨lexC a b=1
 | [],[]=>.inr (.inl ⟨rfl,rfl⟩)
 | [],_::_=>.inl rfl
 |_::_,[]=>.inr (.inr rfl)
 |x::a,y::b=>by
  show (if x=y then lexC a b else if x<y then (-1:Int) else 1) = -1∨(if x=y then lexC a b else if x<y then (-1:Int) else 1)=0∧_∨(if x=y then lexC a b else if x<y then (-1:Int) else 1)=1
  by_cases h:x=y
  · subst h
    rw[if_pos rfl]
    rcases lexC_cases a b with h|⟨h,e⟩|h
    · exact .inl h
    · exact .inr (.inl ⟨h,by rw[e]⟩)
    · exact .inr (.inr h)
  · rw[if_neg h]
    by_cases h2:x<y
    · rw[if_pos h2]; exact .inl rfl
    · rw[if_neg h2]; exact .inr (.inr rfl)
theorem lexC_swap:∀ a b:List UInt8,lexC b a = - lexC a b
 | [],[]=>rfl
 | [],_::_=>rfl
 |_::_,[]=>rfl
 |x::a,y::b=>by
  show (if y=x then lexC b a else if y<x then (-1:Int) else 1) = - (if x=y then lexC a b else if x<y then (-1:Int) else 1)
  by_cases h:x=y
  · subst h
    rw[if_pos rfl,if_pos rfl,lexC_swap a b]
  · rw[if_neg h,if_neg (Ne.symm h)]
    by_cases h2:x<y
    · have h3:¬ y<x:=by rw[UInt8.lt_iff_toNat_lt] at h2 ⊢; omega
      rw[if_pos h2,if_neg h3]; rfl
    · have h3:y<x:=by
       rw[UInt8.lt_iff_toNat_lt] at h2 ⊢
       have:x.toNat≠y.toNat:=fun e=>h (UInt8.toNat_inj.1 e)
       omega
      rw[if_neg h2,if_pos h3]
theorem lexC_trans:∀ a b c:List UInt8,lexC a b = -1→lexC b c = -1→lexC a c = -1
 | [],[],_,h,_=>by cases h
 | [],_::_,[],_,h=>by cases h
 | [],_::_,_::_,_,_=>rfl
 |_::_,[],_,h,_=>by cases h
 |_::_,_::_,[],_,h=>by cases h
 |x::a,y::b,z::c,h1,h2=>by
  change (if x=y then lexC a b else if x<y then (-1:Int) else 1) = -1 at h1
  change (if y=z then lexC b c else if y<z then (-1:Int) else 1) = -1 at h2
  show (if x=z then lexC a c else if x<z then (-1:Int) else 1) = -1
  by_cases hxy:x=y
  · subst hxy
    rw[if_pos rfl] at h1
    by_cases hyz:x=z
    · subst hyz
      rw[if_pos rfl] at h2 ⊢
      exact lexC_trans a b c h1 h2
    · rw[if_neg hyz] at h2 ⊢
      exact h2
  · rw[if_neg hxy] at h1
    by_cases hxy2:x<y
    · by_cases hyz:y=z
      · subst hyz
        rw[if_neg hxy,if_pos hxy2]
      · rw[if_neg hyz] at h2
        by_cases hyz2:y<z
        · have h3:x<z:=by rw[UInt8.lt_iff_toNat_lt] at *; omega
          have h4:x≠z:=fun e=>by subst e; rw[UInt8.lt_iff_toNat_lt] at h3; omega
          rw[if_neg h4,if_pos h3]
        · rw[if_neg hyz2] at h2; cases h2
    · rw[if_neg hxy2] at h1; cases h1
def Lt (a b:List UInt8):Prop:=lexC a b = -1
theorem Lt.gt {a b:List UInt8} (h:Lt a b):lexC b a=1:=by rw[lexC_swap a b,h]; rfl
theorem Lt.of_gt {a b:List UInt8} (h:lexC a b=1):Lt b a:=by show lexC b a = -1; rw[lexC_swap a b,h]
theorem Lt.trans {a b c:List UInt8} (h:Lt a b) (h':Lt b c):Lt a c:=lexC_trans a b c h h'
theorem Lt.tri (a b:List UInt8):Lt a b∨a=b∨Lt b a:=by
 rcases lexC_cases a b with h|⟨_,h⟩|h
 · exact .inl h
 · exact .inr (.inl h)
 · exact .inr (.inr (Lt.of_gt h))
theorem Lt.nil {a:List UInt8} (h:a≠[]):Lt [] a:=by
 cases a with
 |nil=>exact absurd rfl h
 |cons x l=>rfl
def Sorted (es:List Ent):Prop:=es.Pairwise fun a b=>Lt a.kb b.kb
theorem side_ex {kb:List UInt8}:∀ {es:List Ent},Sorted es→(∀ e,e∈es→e.kb≠kb)→∃ p,p≤es.length∧Side p kb es
 | [],_,_=>⟨0,Nat.le_refl _,fun j e h=>by simp at h⟩
 |a::es,hs,hne=>by
  obtain ⟨h1,h2⟩:=List.pairwise_cons.1 hs
  rcases Lt.tri a.kb kb with h|h|h
  · obtain ⟨p,hp,hS⟩:=side_ex h2 fun e he=>hne e (List.mem_cons_of_mem _ he)
    refine ⟨p+1,by simp; omega,fun j e hj=>?_⟩
    cases j with
    |zero=>
     simp only[List.getElem?_cons_zero,Option.some.injEq] at hj
     subst hj
     exact ⟨fun _=>h,fun h=>by omega⟩
    |succ j=>
     rw[List.getElem?_cons_succ] at hj
     obtain ⟨g1,g2⟩:=hS j e hj
     exact ⟨fun h=>g1 (by omega),fun h=>g2 (by omega)⟩
  · exact absurd h (hne a (List.mem_cons_self ..))
  · refine ⟨0,Nat.zero_le _,fun j e hj=>⟨fun h=>by omega,fun _=>?_⟩⟩
    cases j with
    |zero=>
     simp only[List.getElem?_cons_zero,Option.some.injEq] at hj
     subst hj
     exact h.gt
    |succ j=>
     rw[List.getElem?_cons_succ] at hj
     exact (h.trans (h1 e (List.mem_of_getElem? hj))).gt
abbrev Sigs:=List (Value×List Ent)
def zAo (sg:Sigs):List Ent:=sg.flatMap (·.2)
structure Locate (kb:List UInt8) (sg:Sigs) (c:Nat) (f:Value) (es:List Ent) (p:Nat):Prop where
 at_:sg[c]? = some (f,es)
 le:p≤es.length
 side:Side p kb es
 pos:0<c→0<p
 lo:∀ i s,i<c→sg[i]? = some s→∀ e,e∈s.2→Lt e.kb kb
 hi:∀ i s,c<i→sg[i]? = some s→∀ e,e∈s.2→Lt kb e.kb
theorem mem_all {sg:Sigs} {i:Nat} {s:Value×List Ent} (h:sg[i]? = some s) {e:Ent} (he:e∈s.2):e∈zAo sg:=List.mem_flatMap.2 ⟨s,List.mem_of_getElem? h,he⟩
theorem locate {kb:List UInt8}:∀ {sg:Sigs},sg≠[]→Sorted (zAo sg)→(∀ e,e∈zAo sg→e.kb≠kb)→(∀ i s,0<i→sg[i]? = some s→s.2≠[])→∃ c f es p,Locate kb sg c f es p
 | [],h,_,_,_=>absurd rfl h
 | [(f,es)],_,hs,hne,_=>by
  have e:zAo [(f,es)]=es:=by simp[zAo]
  rw[e] at hs hne
  obtain ⟨p,hp,hS⟩:=side_ex hs hne
  refine ⟨0,f,es,p,rfl,hp,hS,fun h=>by omega,fun i s h=>by omega,fun i s h hi=>?_⟩
  cases i with
  |zero=>omega
  |succ i=>simp at hi
 |(f,es)::(g,fs)::sg,_,hs,hne,hn=>by
  have e:zAo ((f,es)::(g,fs)::sg)=es++zAo ((g,fs)::sg):=by simp[zAo]
  rw[e] at hs hne
  obtain ⟨s1,s2,s3⟩:=List.pairwise_append.1 hs
  have hfs:fs≠[]:=hn 1 (g,fs) (by omega) rfl
  obtain ⟨a,fr,hfr⟩:∃ a fr,fs=a::fr:=by cases fs with
   |nil=>exact absurd rfl hfs
   |cons a fr=>exact ⟨a,fr,rfl⟩
  have ha:a∈zAo ((g,fs)::sg):=mem_all (i:=0) rfl (by rw[hfr]; exact List.mem_cons_self ..)
  rcases Lt.tri a.kb kb with h|h|h
  · obtain ⟨c,f',es',p,hl⟩:=locate (sg:=(g,fs)::sg) (by simp) s2 (fun e he=>hne e (List.mem_append.2 (.inr he))) (fun i s hi h=>hn (i+1) s (by omega) (by rw[List.getElem?_cons_succ]; exact h))
    refine ⟨c+1,f',es',p,by rw[List.getElem?_cons_succ]; exact hl.at_,hl.le,hl.side,fun _=>?_,fun i s hi hs' e he=>?_,fun i s hi hs' e he=>?_⟩
    · rcases Nat.eq_zero_or_pos c with hc|hc
      · subst hc
        have:=hl.at_
        simp only[List.getElem?_cons_zero,Option.some.injEq,Prod.mk.injEq] at this
        obtain ⟨_,rfl⟩:=this
        rcases Nat.eq_zero_or_pos p with hp|hp
        · subst hp
          have:=(hl.side 0 a (by rw[hfr]; rfl)).2 (Nat.le_refl _)
          rw[h] at this; cases this
        · exact hp
      · exact hl.pos hc
    · cases i with
      |zero=>
       simp only[List.getElem?_cons_zero,Option.some.injEq] at hs'
       subst hs'
       exact (s3 e he a ha).trans h
      |succ i=>
       rw[List.getElem?_cons_succ] at hs'
       exact hl.lo i s (by omega) hs' e he
    · cases i with
      |zero=>omega
      |succ i=>
       rw[List.getElem?_cons_succ] at hs'
       exact hl.hi i s (by omega) hs' e he
  · exact absurd h (hne a (List.mem_append.2 (.inr ha)))
  · obtain ⟨p,hp,hS⟩:=side_ex s1 fun e he=>hne e (List.mem_append.2 (.inl he))
    refine ⟨0,f,es,p,rfl,hp,hS,fun h=>by omega,fun i s h=>by omega,fun i s hi hs' e he=>?_⟩
    cases i with
    |zero=>omega
    |succ i=>
     rw[List.getElem?_cons_succ] at hs'
     have hem:e∈zAo ((g,fs)::sg):=mem_all hs' he
     have e2:zAo ((g,fs)::sg)=a::(fr++zAo sg):=by simp[zAo,hfr]
     rw[e2] at hem s2
     rcases List.mem_cons.1 hem with rfl|hem
     · exact h
     · exact h.trans ((List.pairwise_cons.1 s2).1 e hem)
end Go.AM
namespace Go.AM
variable {P:Program}
structure TInv (sg:Sigs):Prop where
 ne:sg≠[]
 first:∀ s,sg[0]? = some s→s.1=nilS
 firsts:∀ i s,0<i→sg[i]? = some s→∃ e r,s.2=e::r∧s.1=e.k
 sorted:Sorted (zAo sg)
 keys:∀ e,e∈zAo sg→e.kb≠[]
 small:∀ s,s∈sg→s.2.length≤16
 big:1<sg.length→∀ s,s∈sg→8≤s.2.length
inductive TreeIs (H:Heap) (root:Value) (sg:Sigs):Prop where
 |one (x:Img) (f:Value) (es:List Ent) (h1:root=ptrV x) (h2:sg=[(f,es)]) (h3:f.oneCell'=true) (h4:LeafAt H x f (kvs es)) (h5:∀ e,e∈es→EntOk H e)
 |many (x:Img) (f0:Value) (ls:List Kid) (h1:root=ptrV x) (h2:sg=ls.map sig) (h3:f0.oneCell'=true) (h4:TreeN H x f0 ls) (h5:1<ls.length)
theorem TreeIs.mono {H H':Heap} {root:Value} {sg:Sigs} (h:TreeIs H root sg) (hw:∀ b o,H b=some o→H' b=some o):TreeIs H' root sg:=by
 cases h with
 |one x f es h1 h2 h3 h4 h5=>exact .one x f es h1 h2 h3 (h4.mono hw) fun e he=>(h5 e he).mono hw
 |many x f0 ls h1 h2 h3 h4 h5=>
  obtain ⟨chl,t1,t2,t3⟩:=h4
  exact .many x f0 ls h1 h2 h3 ⟨chl,t1.mono hw,t2.mono hw,fun K hK=>(t3 K hK).mono hw⟩ h5
def newSg (sg:Sigs) (c p:Nat) (e:Ent) (f:Value) (es:List Ent):Sigs:=sg.take c++zCh f (insE p e es)++sg.drop (c+1)
theorem newSigs_all (f:Value) (es:List Ent):zAo (zCh f es)=es:=by
 unfold zCh zAo
 split
 · simp
 · simp[List.take_append_drop]
theorem allOf_append (a b:Sigs):zAo (a++b)=zAo a++zAo b:=by simp[zAo]
theorem newSg_all {sg:Sigs} {c p:Nat} {e:Ent} {f:Value} {es:List Ent}:zAo (newSg sg c p e f es)=zAo (sg.take c)++insE p e es++zAo (sg.drop (c+1)):=by
 unfold newSg
 rw[allOf_append,allOf_append,newSigs_all]
theorem ZCg {sg:Sigs} {c:Nat} {f:Value} {es:List Ent} (h:sg[c]? = some (f,es)):zAo sg=zAo (sg.take c)++es++zAo (sg.drop (c+1)):=by
 have hlt:=zAf h
 have e1:sg=sg.take c++(f,es)::sg.drop (c+1):=by
  have h2:sg[c]=(f,es):=by rw[List.getElem?_eq_getElem hlt] at h; exact Option.some.inj h
  rw[← h2,List.getElem_cons_drop,List.take_append_drop]
 have:zAo sg=zAo (sg.take c++(f,es)::sg.drop (c+1)):=congrArg zAo e1
 rw[this,allOf_append]
 simp[zAo]
theorem insE_sorted:∀ {p:Nat} {e:Ent} {es:List Ent},Sorted es→p≤es.length→Side p e.kb es→Sorted (insE p e es)
 |0,e,es,hs,_,hS=>by
  refine List.pairwise_cons.2 ⟨fun x hx=>?_,hs⟩
  obtain ⟨i,hi,rfl⟩:=List.getElem_of_mem hx
  exact Lt.of_gt ((hS i _ (List.getElem?_eq_getElem hi)).2 (Nat.zero_le _))
 |p+1,e,[],_,hp,_=>by simp at hp
 |p+1,e,a::es,hs,hp,hS=>by
  obtain ⟨h1,h2⟩:=List.pairwise_cons.1 hs
  refine List.pairwise_cons.2 ⟨fun x hx=>?_,insE_sorted h2 (by simpa using hp) fun j x hj=>?_⟩
  · rcases insE_mem hx with rfl|hx
    · exact (hS 0 a rfl).1 (Nat.succ_pos _)
    · exact h1 x hx
  · obtain ⟨g1,g2⟩:=hS (j+1) x (by rw[List.getElem?_cons_succ]; exact hj)
    exact ⟨fun h=>g1 (by omega),fun h=>g2 (by omega)⟩
theorem insE_has:∀ {p:Nat} {e:Ent} {es:List Ent},p≤es.length→e∈insE p e es∧∀ x,x∈es→x∈insE p e es
 |0,e,es,_=>⟨List.mem_cons_self ..,fun x hx=>List.mem_cons_of_mem _ hx⟩
 |p+1,e,[],hp=>by simp at hp
 |p+1,e,a::es,hp=>by
  obtain ⟨h1,h2⟩:=insE_has (p:=p) (e:=e) (es:=es) (by simpa using hp)
  refine ⟨List.mem_cons_of_mem _ h1,fun x hx=>?_⟩
  rcases List.mem_cons.1 hx with rfl|hx
  · exact List.mem_cons_self ..
  · exact List.mem_cons_of_mem _ (h2 x hx)
theorem newSg_mem {sg:Sigs} {c p:Nat} {e:Ent} {f:Value} {es:List Ent} (h:sg[c]? = some (f,es)) (hp:p≤es.length) (x:Ent):x∈zAo (newSg sg c p e f es) ↔ x=e∨x∈zAo sg:=by
 rw[newSg_all,ZCg h]
 simp only[List.mem_append]
 have hi:=insE_has (e:=e) hp
 constructor
 · rintro ((h|h)|h)
   · exact .inr (.inl (.inl h))
   · rcases insE_mem h with rfl|h
     · exact .inl rfl
     · exact .inr (.inl (.inr h))
   · exact .inr (.inr h)
 · rintro (rfl|(h|h)|h)
   · exact .inl (.inr hi.1)
   · exact .inl (.inl h)
   · exact .inl (.inr (hi.2 x h))
   · exact .inr h
theorem newSg_len {sg:Sigs} {c p:Nat} {e:Ent} {f:Value} {es:List Ent} (h:sg[c]? = some (f,es)) (hp:p≤es.length):(zAo (newSg sg c p e f es)).length=(zAo sg).length+1:=by
 rw[newSg_all,ZCg h]
 simp only[List.length_append,insE_len hp]
 omega
theorem insE_head {p:Nat} {e a:Ent} {r:List Ent} (hp:0<p):∃ r',insE p e (a::r)=a::r':=by
 cases p with
 |zero=>omega
 |succ p=>exact ⟨_,rfl⟩
theorem newSigs_get {f:Value} {es:List Ent} {j:Nat} {s:Value×List Ent} (h:(zCh f es)[j]? = some s) (hl:es.length≤17):(j=0∧s.1=f∧(s.2=es∧es.length≤16∨s.2=es.take 8∧es.length=17))∨(j=1∧es.length=17∧s.1=keyV es 8∧s.2=es.drop 8):=by
 unfold zCh at h
 split at h
 · rename_i h16
   match j,h with
   |0,h=>
    simp only[List.getElem?_cons_zero,Option.some.injEq] at h
    subst h
    exact .inl ⟨rfl,rfl,.inl ⟨rfl,h16⟩⟩
   |j+1,h=>simp at h
 · rename_i h16
   match j,h with
   |0,h=>
    simp only[List.getElem?_cons_zero,Option.some.injEq] at h
    subst h
    exact .inl ⟨rfl,rfl,.inr ⟨rfl,by omega⟩⟩
   |1,h=>
    simp only[List.getElem?_cons_succ,List.getElem?_cons_zero,Option.some.injEq] at h
    subst h
    exact .inr ⟨rfl,by omega,rfl,rfl⟩
   |j+2,h=>simp at h
theorem newSigs_len (f:Value) (es:List Ent):(zCh f es).length=if es.length≤16 then 1 else 2:=by
 unfold zCh
 split<;>rfl
theorem newSg_get {sg:Sigs} {c p:Nat} {e:Ent} {f:Value} {es:List Ent} (hc:c<sg.length) {i:Nat} {s:Value×List Ent} (h:(newSg sg c p e f es)[i]? = some s) :
 (i<c∧sg[i]? = some s)∨(c≤i∧(zCh f (insE p e es))[i-c]? = some s)∨(c<i∧∃ j,c<j∧sg[j]? = some s):=by
 unfold newSg at h
 rw[List.append_assoc,List.getElem?_append,List.length_take,Nat.min_eq_left (by omega)] at h
 split at h
 · rename_i hi
   rw[List.getElem?_take,if_pos hi] at h
   exact .inl ⟨hi,h⟩
 · rename_i hi
   rw[List.getElem?_append] at h
   split at h
   · exact .inr (.inl ⟨by omega,h⟩)
   · rename_i hn
     rw[List.getElem?_drop] at h
     refine .inr (.inr ⟨?_,_,by omega,h⟩)
     have:=newSigs_len f (insE p e es)
     split at this<;>omega
theorem inv_put {sg:Sigs} (h:TInv sg) {c p:Nat} {e:Ent} {f:Value} {es:List Ent} (hl:Locate e.kb sg c f es p) (he:e.kb≠[]):TInv (newSg sg c p e f es):=by
 have hc:=zAf hl.at_
 have hmem:(f,es)∈sg:=List.mem_of_getElem? hl.at_
 have h16:=h.small _ hmem
 have hil:(insE p e es).length=es.length+1:=insE_len hl.le
 have h17:(insE p e es).length≤17:=by rw[hil]; have:es.length≤16:=h16; omega
 have hsp:=ZCg hl.at_
 have hsorted:=h.sorted
 rw[hsp] at hsorted
 obtain ⟨s1,s2,s3⟩:=List.pairwise_append.1 hsorted
 obtain ⟨s4,s5,s6⟩:=List.pairwise_append.1 s1
 have hlo:∀ x,x∈zAo (sg.take c)→Lt x.kb e.kb:=by
  intro x hx
  obtain ⟨s,hs,hxs⟩:=List.mem_flatMap.1 hx
  obtain ⟨i,hi,rfl⟩:=List.getElem_of_mem hs
  have h1:=List.getElem?_eq_getElem hi
  rw[List.getElem?_take] at h1
  split at h1
  · exact hl.lo i _ ‹_› h1 x hxs
  · cases h1
 have hhi:∀ x,x∈zAo (sg.drop (c+1))→Lt e.kb x.kb:=by
  intro x hx
  obtain ⟨s,hs,hxs⟩:=List.mem_flatMap.1 hx
  obtain ⟨i,hi,rfl⟩:=List.getElem_of_mem hs
  have h1:=List.getElem?_eq_getElem hi
  rw[List.getElem?_drop] at h1
  exact hl.hi _ _ (by omega) h1 x hxs
 refine ⟨?_,fun s hs=>?_,fun i s hi hs=>?_,?_,fun x hx=>?_,fun s hs=>?_,fun hlen s hs=>?_⟩
 · unfold newSg zCh
   split<;>simp
 · rcases newSg_get hc hs with ⟨h0,h1⟩|⟨h0,h1⟩|⟨h0,_⟩
   · exact h.first s h1
   · have hc0:c=0:=by omega
     subst hc0
     rcases newSigs_get h1 h17 with ⟨_,g,_⟩|⟨g,_⟩
     · rw[g]; exact h.first _ hl.at_
     · omega
   · omega
 · rcases newSg_get hc hs with ⟨h0,h1⟩|⟨h0,h1⟩|⟨h0,j,hj,h1⟩
   · exact h.firsts i s hi h1
   · rcases newSigs_get h1 h17 with ⟨g0,g1,g2⟩|⟨g0,g1,g2,g3⟩
     · have hc0:0<c:=by omega
       obtain ⟨a,r,k1,k2⟩:=h.firsts c _ hc0 hl.at_
       have k1':es=a::r:=k1
       have k2':f=a.k:=k2
       obtain ⟨r',hr'⟩:=insE_head (e:=e) (a:=a) (r:=r) (hl.pos hc0)
       rw[← k1'] at hr'
       rcases g2 with ⟨g2,_⟩|⟨g2,_⟩
       · exact ⟨a,r',by rw[g2,hr'],by rw[g1,k2']⟩
       · exact ⟨a,r'.take 7,by rw[g2,hr']; rfl,by rw[g1,k2']⟩
     · have h8:8<(insE p e es).length:=by omega
       refine ⟨(insE p e es)[8],(insE p e es).drop 9,?_,?_⟩
       · rw[g3,← List.getElem_cons_drop h8]
       · rw[g2]
         unfold keyV
         rw[List.getElem?_eq_getElem h8]; rfl
   · exact h.firsts j s (by omega) h1
 · rw[newSg_all]
   refine List.pairwise_append.2 ⟨List.pairwise_append.2 ⟨s4,insE_sorted s5 hl.le hl.side,fun a ha b hb=>?_⟩,s2,fun a ha b hb=>?_⟩
   · rcases insE_mem hb with rfl|hb
     · exact hlo a ha
     · exact s6 a ha b hb
   · rcases List.mem_append.1 ha with ha|ha
     · exact s3 a (List.mem_append.2 (.inl ha)) b hb
     · rcases insE_mem ha with rfl|ha
       · exact hhi b hb
       · exact s3 a (List.mem_append.2 (.inr ha)) b hb
 · rcases (newSg_mem hl.at_ hl.le x).1 hx with rfl|hx
   · exact he
   · exact h.keys x hx
 · obtain ⟨i,hi,rfl⟩:=List.getElem_of_mem hs
   rcases newSg_get hc (List.getElem?_eq_getElem hi) with ⟨_,h1⟩|⟨_,h1⟩|⟨_,j,_,h1⟩
   · exact h.small _ (List.mem_of_getElem? h1)
   · rcases newSigs_get h1 h17 with ⟨_,_,⟨g,g'⟩|⟨g,g'⟩⟩|⟨_,g',_,g⟩
     · rw[g]; exact g'
     · rw[g,List.length_take]; omega
     · rw[g,List.length_drop]; omega
   · exact h.small _ (List.mem_of_getElem? h1)
 · obtain ⟨i,hi,rfl⟩:=List.getElem_of_mem hs
   have hold:1<sg.length∨sg.length=1:=by omega
   rcases newSg_get hc (List.getElem?_eq_getElem hi) with ⟨h0,h1⟩|⟨_,h1⟩|⟨h0,j,hj,h1⟩
   · exact h.big (by omega) _ (List.mem_of_getElem? h1)
   · rcases newSigs_get h1 h17 with ⟨_,_,⟨g,g'⟩|⟨g,g'⟩⟩|⟨_,g',_,g⟩
     · rw[g,hil]
       rcases hold with hold|hold
       · have:=h.big hold _ hmem
         have:8≤es.length:=this
         omega
       · exfalso
         have hlen':=hlen
         unfold newSg at hlen'
         rw[List.length_append,List.length_append,newSigs_len,if_pos g',List.length_take,List.length_drop] at hlen'
         omega
     · rw[g,List.length_take]; omega
     · rw[g,List.length_drop]; omega
   · have:=zAf h1
     exact h.big (by omega) _ (List.mem_of_getElem? h1)
end Go.AM
namespace Go.AM
variable {P:Program}
structure BRuns (P:Program) (G fp fn:Nat) (KB:Nat→Nat→Nat→Nat→Nat→KH) (N:Nat):Prop where
 glob:P.globals.size=G
 pos:0<G
 le:G≤60000
 sound:∀ (T:Tok) m c s s2 p,T.strong=true→CmpT T m c s s2 p→@zBb T P (KB m c s s2 p)
 putL:∀ s p,s≤16→p≤s→putLRun (KB 0 0 s 0 p) fp G 0 .none s p=true
 putN:∀ m c s p,2≤m→c<m→8≤s→s≤16→8*(m-1)+s≤N→p≤s→putNRun (KB m c s 0 p) fp G 0 .none m c s p=true
 nextL:∀ s p,s≤16→p≤s→nextLRun (KB 0 0 s 0 p) fn G 0 .none s p=true
 nextN:∀ m c s p,2≤m→c<m→8≤s→s≤16→8*(m-1)+s≤N→p≤s→p<s∨c+1=m→nextNRun (KB m c s 0 p) fn G 0 .none m c s 0 p=true
 nextE:∀ m c s s2,c+1<m→8≤s→s≤16→8≤s2→s2≤16→8*(m-2)+s+s2≤N→nextNRun (KB m c s s2 s) fn G 0 .none m c s s2 s=true
structure PRuns (P:Program) (G fp:Nat) (KB:Nat→Nat→Nat→Nat→Nat→KH) (N:Nat):Prop where
 glob:P.globals.size=G
 pos:0<G
 le:G≤60000
 sound:∀ (T:Tok) m c s s2 p,T.strong=true→CmpT T m c s s2 p→@zBb T P (KB m c s s2 p)
 putL:∀ s p,s≤16→p≤s→putLRun (KB 0 0 s 0 p) fp G 0 .none s p=true
 putN:∀ m c s p,2≤m→c<m→8≤s→s≤16→8*(m-1)+s≤N→p≤s→putNRun (KB m c s 0 p) fp G 0 .none m c s p=true
theorem len_ge:∀ {sg:Sigs},(∀ s,s∈sg→8≤s.2.length)→8*sg.length≤(zAo sg).length
 | [],_=>Nat.le_refl _
 |s::sg,h=>by
  have h1:=h s (List.mem_cons_self ..)
  have h2:=len_ge (sg:=sg) fun t ht=>h t (List.mem_cons_of_mem _ ht)
  have e:(zAo (s::sg)).length=s.2.length+(zAo sg).length:=by simp[zAo]
  rw[e,List.length_cons]; omega
theorem len_one {sg:Sigs} (h:∀ s,s∈sg→8≤s.2.length) {c:Nat} {f:Value} {es:List Ent} (hc:sg[c]? = some (f,es)):8*(sg.length-1)+es.length≤(zAo sg).length:=by
 have hlt:=zAf hc
 have h1:=len_ge (sg:=sg.take c) fun s hs=>h s (List.mem_of_mem_take hs)
 have h2:=len_ge (sg:=sg.drop (c+1)) fun s hs=>h s (List.mem_of_mem_drop hs)
 rw[ZCg hc,List.length_append,List.length_append]
 rw[List.length_take] at h1
 rw[List.length_drop] at h2
 omega
theorem len_two {sg:Sigs} (h:∀ s,s∈sg→8≤s.2.length) {c:Nat} {f g:Value} {es fs:List Ent} (hc:sg[c]? = some (f,es)) (hd:sg[c+1]? = some (g,fs)):8*(sg.length-2)+es.length+fs.length≤(zAo sg).length:=by
 have hlt:=zAf hd
 have h1:=len_ge (sg:=sg.take c) fun s hs=>h s (List.mem_of_mem_take hs)
 have h2:=len_one (sg:=sg.drop (c+1)) (fun s hs=>h s (List.mem_of_mem_drop hs)) (c:=0) (f:=g) (es:=fs) (by rw[List.getElem?_drop]; exact hd)
 rw[ZCg hc,List.length_append,List.length_append]
 rw[List.length_take] at h1
 rw[List.length_drop] at h2
 omega
theorem firsts_at {H:Heap} {ls:List Kid} (hI:TInv (ls.map sig)) (hk:∀ K,K∈ls→KidAt H K) {kb:List UInt8} (hkb:kb≠[]) {c p:Nat} {f:Value} {es:List Ent} (hl:Locate kb (ls.map sig) c f es p):FirstsAt H c kb ls:=by
 intro i L hi
 have hs:(ls.map sig)[i]? = some (sig L):=by rw[List.getElem?_map,hi]; rfl
 have hL:=hk L (List.mem_of_getElem? hi)
 rcases Nat.eq_zero_or_pos i with h0|h0
 · subst h0
   have hf:L.f=nilS:=hI.first _ hs
   refine ⟨[],by rw[hf]; exact .inl ⟨rfl,rfl⟩,fun _=>Lt.nil hkb,fun h=>by omega⟩
 · obtain ⟨a,r,k1,k2⟩:=hI.firsts i _ h0 hs
   have k1':L.es=a::r:=k1
   have k2':L.f=a.k:=k2
   have ha:a∈L.es:=by rw[k1']; exact List.mem_cons_self ..
   refine ⟨a.kb,by rw[k2']; exact (hL.2.2.1 a ha).1,fun h=>?_,fun h=>?_⟩
   · rcases Nat.lt_or_ge i c with hc|hc
     · exact hl.lo i _ hc hs a ha
     · have hic:i=c:=by omega
       subst hic
       have:=hl.at_
       rw[hs] at this
       have e:L.es=es:=by injection this with this; exact congrArg Prod.snd this
       have hp:=hl.pos h0
       exact (hl.side 0 a (by rw[← e,k1']; rfl)).1 hp
   · exact (hl.hi i _ h hs a ha).gt
theorem tree_put {G fp N:Nat} {KB:Nat→Nat→Nat→Nat→Nat→KH} (R:PRuns P G fp KB N) (hN90:N≤700) {w:World} (hgs:G≤w.heap.size) {H:Heap} (hH:In H w) {root:Value} {sg:Sigs} {e:Ent} (h:TreeIs H root sg) (hI:TInv sg) (hN:(zAo sg).length≤N) (he:EntOk H e) (hne:e.kb≠[])
 (hnew:∀ x,x∈zAo sg→x.kb≠e.kb) :
 Ends P fp #[root,.agg #[e.k,e.v]] w fun cv w'=>ZAb w w'∧∃ sl xs sg',cv=.tuple #[sl,.bool true]∧ZAk (upd H w w') 1 sl xs.length (xs.map ptrV)∧TInv sg'∧(∀ x,x∈zAo sg' ↔ x=e∨x∈zAo sg)∧(zAo sg').length=(zAo sg).length+1∧
  ((∃ x,xs=[x]∧TreeIs (upd H w w') (ptrV x) sg')∨∃ K1 K2:Kid,xs=[K1.x,K2.x]∧sg'=[sig K1,sig K2]∧KidAt (upd H w w') K1∧KidAt (upd H w w') K2):=by
 obtain ⟨c,f,es,p,hl⟩:=locate hI.ne hI.sorted hnew fun i s hi hs=>by
  obtain ⟨a,r,k1,_⟩:=hI.firsts i s hi hs
  rw[k1]; simp
 have hI':=inv_put hI hl hne
 have hmem:=fun x=>newSg_mem (e:=e) hl.at_ hl.le x
 have hlen:=newSg_len (e:=e) hl.at_ hl.le
 have hs16:=hI.small _ (List.mem_of_getElem? hl.at_)
 cases h with
 |one x f' es' h1 h2 h3 h4 h5=>
  subst h1
  subst h2
  have hc0:c=0:=by have:=zAf hl.at_; simp at this; omega
  subst hc0
  have hat:=hl.at_
  simp only[List.getElem?_cons_zero,Option.some.injEq,Prod.mk.injEq] at hat
  obtain ⟨rfl,rfl⟩:=hat
  have hf:f'=nilS:=hI.first _ rfl
  have hsg:newSg [(f',es')] 0 p e f' es'=zCh f' (insE p e es'):=by simp[newSg]
  obtain ⟨hek,vb,hev⟩:=he
  refine (putL_ok R.glob R.pos R.le hgs hH (fun T hst hc=>R.sound T _ _ _ _ _ hst hc) (R.putL _ p hs16 hl.le) hs16 hl.le h3 h4 h5 hek hev hl.side).mono fun cv w' ⟨hleft,sl,xs,k1,k2,k3⟩=>⟨hleft,sl,xs,_,k1,k2,hI',hmem,hlen,?_⟩
  have hent:∀ x,x∈insE p e es'→EntOk (upd H w w') x:=insE_sub (EntOk.mono ⟨hek,vb,hev⟩ (upd_mono hH)) fun x hx=>(h5 x hx).mono (upd_mono hH)
  rw[hsg]
  rw[← insE_kvs] at k3
  rcases k3 with ⟨q1,x',rfl,q2⟩|⟨q1,x',y',g,rfl,q2,q3,q4⟩
  · rw[ZBe] at q1
    refine .inl ⟨x',rfl,.one x' f' (insE p e es') rfl ?_ h3 q2 hent⟩
    unfold zCh
    rw[if_pos q1]
  · rw[ZBe] at q1
    rw[← kvs_take] at q2
    rw[← kvs_drop] at q3
    have h8:8<(insE p e es').length:=by rw[q1]; decide
    have hg:keyV (insE p e es') 8=g:=by
     cases hq:(kvs (insE p e es'))[8]? with
     |none=>rw[hq] at q4; cases q4
     |some q=>rw[hq] at q4; cases q4; exact (kvs_get hq).1
    obtain ⟨K1,a1,a2,a3⟩:=leafAt_kid q2 (fun x hx=>hent x (List.mem_of_mem_take hx)) ⟨[],by rw[hf]; exact .inl ⟨rfl,rfl⟩⟩
    obtain ⟨K2,b1,b2,b3⟩:=leafAt_kid q3 (fun x hx=>hent x (List.mem_of_mem_drop hx)) ⟨(insE p e es')[8].kb,by
     rw[← hg]
     unfold keyV
     rw[List.getElem?_eq_getElem h8]
     exact (hent _ (List.getElem_mem h8)).1⟩
    refine .inr ⟨K1,K2,by rw[a1,b1],?_,a3,b3⟩
    unfold zCh
    rw[if_neg (by rw[q1]; decide),a2,b2,hg]
 |many x f0 ls h1 h2 h3 h4 h5=>
  subst h1
  subst h2
  have hat:=hl.at_
  rw[List.getElem?_map] at hat
  cases hK:ls[c]? with
  |none=>rw[hK] at hat; cases hat
  |some Kc=>
   rw[hK] at hat
   simp only[Option.map_some,Option.some.injEq] at hat
   have hf:Kc.f=f:=congrArg Prod.fst hat
   have hes:Kc.es=es:=congrArg Prod.snd hat
   subst hf
   subst hes
   have hml:(ls.map sig).length=ls.length:=List.length_map _
   have hbig:=hI.big (by rw[hml]; exact h5)
   have h8:8≤Kc.es.length:=hbig _ (List.mem_of_getElem? hl.at_)
   have hcl:=zAf hK
   have hsum:=len_one hbig hl.at_
   rw[hml] at hsum
   have hkids:∀ K,K∈ls→KidAt H K:=by obtain ⟨_,_,_,t⟩:=h4; exact t
   refine (putN_ok R.glob R.pos R.le hgs hH h4 hK (fun T hst hc=>R.sound T _ _ _ _ _ hst hc) (R.putN _ c _ p h5 hcl h8 hs16 (by omega) hl.le) (by omega) hs16 hl.le (by omega) h3 he hl.side (firsts_at hI hkids hne hl)).mono fun cv w' ⟨hleft,sl,x',ks,k1,k2,k3,k4⟩=>⟨hleft,sl,[x'],_,k1,k2,hI',hmem,hlen,.inl ⟨x',rfl,?_⟩⟩
   have hsg:newSg (ls.map sig) c p e Kc.f Kc.es=ks.map sig:=by
    rw[k4]
    unfold newSg
    rw[List.map_take,List.map_drop]
   rw[hsg]
   refine .many x' f0 ks rfl rfl h3 k3 ?_
   have e1:=congrArg List.length k4
   rw[List.length_map,List.length_append,List.length_append,List.length_map,List.length_map,List.length_take,List.length_drop,newSigs_len] at e1
   split at e1<;>omega
end Go.AM
namespace Go.AM
variable {P:Program}
def freshNs (n:Nat):List Nat→Bool
 | []=>true
 |x::l=>and (Nat.ble n x) (freshNs n l)
theorem freshNs_ok {n:Nat}:∀ {l:List Nat},freshNs n l=true→∀ x,x∈l→n≤x
 | [],_,x,h=>by cases h
 |y::l,h,x,hx=>by
  have h':and (Nat.ble n y) (freshNs n l)=true:=h
  simp only[Bool.and_eq_true,zAd] at h'
  rcases List.mem_cons.1 hx with rfl|hx
  · exact h'.1
  · exact freshNs_ok h'.2 x hx
def noH:Heap:=fun _=>none
theorem upd_no {H:Heap} {w w':World}:∀ b o,upd noH w w' b=some o→upd H w w' b=some o:=fun b o h=>by
 unfold upd at h ⊢
 split at h
 · cases h
 · rename_i hb
   rw[if_neg hb]; exact h
theorem upd_in {H:Heap} {w w':World} (hH:In H w) (hl:ZAb w w'):In (upd H w w') w':=fun b o h=>by
 unfold upd at h
 split at h
 · rename_i hb
   rw[hl.1 b hb]; exact hH b o h
 · exact h
theorem upd_none {H:Heap} {w w':World} {p:Nat} (hp:p<w.heap.size) (h:H p=none):upd H w w' p=none:=by
 unfold upd
 rw[if_pos hp]; exact h
theorem tells_new {T:Tok} {G:Nat} (h0:0<G) {ns:List Nat} {φ φ':Phi} {m m':Mem} {w w':World} {E:List Blk} (hst:@Step T P φ m w φ' m' w') (hro:∀ q,q<m.next→(m.get q).wr=false) (hf:freshNs m.next ns=true) (h:zAp (zAx G ns) 0 .none E m'=true) :
 Tells (zAj (zAx G ns) φ') (zAe G 0 .none E) (upd noH w w') w':=by
 intro p x hp hl
 unfold zAj at hp
 split at hp
 · rename_i hlt
   obtain ⟨h1,h2⟩:=absMem_live (@Rel.bound T P _ _ _ (@Step.rel T P _ _ _ _ _ _ hst)) h rfl hlt hl
   unfold upd
   split
   · rename_i hx
     have hpG:G<p:=by
      rcases Nat.lt_or_ge G p with hg|hg
      · exact hg
      · exfalso
        have hb:(zAx G ns).top≤65536:=by
         unfold zAp at h
         simp only[Bool.and_eq_true,zAd] at h
         exact h.1.1.2
        have hlen:E.length=ns.length:=by
         unfold zAp at h
         simp only[Bool.and_eq_true,zAd] at h
         exact (chkL_ok h.2.2).1
        rw[zBd] at hb
        have hb':G+1+ns.length≤65536:=hb
        rw[zAu h0 (by rw[hlen]; exact hb') (by omega),if_neg (by omega)] at hl
        split at hl<;>cases hl
     have hq:m.next≤(zAx G ns).nm p:=by
      rw[nm_high (show (zAx G ns).G<p from hpG)]
      rw[zBd] at hlt
      have hlt':p<G+1+ns.length:=hlt
      have h4:p-(G+1)<ns.length:=by omega
      show m.next≤(ns[p-(G+1)]?).getD 0
      rw[List.getElem?_eq_getElem h4]
      exact freshNs_ok hf _ (List.getElem_mem h4)
     obtain ⟨q,o',s',g1,g2,_⟩:=@Step.img T P _ _ _ _ _ _ hst _ x.1 x.2.1 x.2.2 hq h1 h2 hp hx
     rw[hro q g1] at g2; cases g2
   · rfl
 · cases hp
end Go.AM
namespace Go.AM
variable {P:Program}
def oqs:Nat→Nat→List AVal
 |0,_=>[]
 |n+1,a=>.opq a::oqs n (Nat.succ a)
def cloneRun (K:KH) (f G n:Nat):Bool:=
 match K f [.slice (Nat.succ G) 0 n n false 1] (zAe G 0 .none [.cells true (oqs n 0)]) with
 | .ok x m=>and (freshNs (Nat.add 2 G) [nmOf x]) (putChk (zAx G [nmOf x]) 0 .none n [.cells true (oqs n 0)] x true m)
 | .fail _=>false
theorem oqs_len:∀ n a:Nat,(oqs n a).length=n
 |0,_=>rfl
 |n+1,a=>by show (oqs n (a+1)).length+1=_; rw[oqs_len n (a+1)]
theorem zCf:∀ {n a:Nat} {v:AVal},v∈oqs n a→isOpqB v=true
 |0,_,_,h=>by cases h
 |n+1,a,v,h=>by
  rcases List.mem_cons.1 h with rfl|h
  · rfl
  · exact zCf h
theorem zBp {v:AVal} (h:isOpqB v=true):v.isCell=true:=by cases v<;>first|rfl|(cases h; done)
theorem ZCx {T:Tok} {φ:Phi}:∀ (vs:List Value) (a:Nat),(∀ j v,vs[j]? = some v→T.val (a+j)=v)→@zAa T φ (oqs vs.length a) vs
 | [],_,_=>@zAa.nil T φ
 |v::vs,a,h=>by
  have ih:=ZCx (T:=T) (φ:=φ) vs (a+1) fun j u hj=>by
   have:=h (j+1) u (by rw[List.getElem?_cons_succ]; exact hj)
   rwa [show a+(j+1)=a+1+j by omega] at this
  refine @zAa.cons T φ _ _ _ _ ?_ ih
  have h0:=h 0 v rfl
  rw[Nat.add_zero] at h0
  rw[← h0]; exact @VRel.opq T φ a
theorem row_rel {T:Tok} {H:Heap} {n z:Nat} {pl:Value} {vs:List Value} (hn:0<n) (h:ZAk H z pl n vs):∃ x,zAi H x vs∧∀ φ A,φ A=some x→@VRel T φ (.slice A 0 n n false z) pl:=by
 rcases h with ⟨e,_⟩|⟨x,cap,h1,h2,rfl,h4,h5,h6⟩
 · omega
 · exact ⟨x,h6,fun φ A hφ=>@VRel.slice T φ A 0 n n false z x.1 x.2.1 x.2.2 x.2.1 cap hφ (Nat.le_refl _) h4 (fun h=>by cases h) (fun _=>rfl) h5⟩
theorem zCl {T:Tok} {m:Mem} {φ:Phi} {H:Heap} {w:World} (hI:Tells φ m H w) (hr:@Rel T P φ m w) {A n z:Nat} (hn:0<n) {ro:Bool} {L:List AVal} {vs:List Value} (hA:A<m.next) (hg:m.get A=.cells ro L) (hlen:vs.length=n*z) (hL:∀ us,@zAa T φ L us→us=vs) {cv:Value}
 (hv:@VRel T φ (.slice A 0 n n false z) cv):ZAk H z cv n vs:=by
 obtain ⟨x,us,h1,h2,h3⟩:=ZBd hI hr hA hg
 have e:=hL us h3
 subst e
 cases hv with
 |slice _ _ _ _ _ _ cb co sz o' cap' q1 q2 q3 q4 q5 q6=>
  rw[h1] at q1
  cases q1
  have ho:=q5 (by omega)
  exact .inr ⟨(cb,co,sz),cap',hn,hlen,by rw[ho]; rfl,q3,by show co+cap'*z≤sz; omega,h2⟩
theorem clone_ok {K:KH} {f G n:Nat} (hG:P.globals.size=G) (h0:0<G) (hGb:G≤60000) (hK:∀ T:Tok,T.strong=true→@zBb T P K) (hrun:cloneRun K f G n=true) (hn:0<n) {w:World} (hgs:G≤w.heap.size) {H:Heap} (hH:In H w) {v:Value} {vs:List Value} (hv:ZAk H 1 v n vs) (hc:∀ u,u∈vs→u.oneCell'=true) :
 Ends P f #[v] w fun cv w'=>ZAb w w'∧ZAk (upd noH w w') 1 cv n vs:=by
 have hlen:vs.length=n:=by rcases hv with ⟨e,_⟩|⟨_,_,_,h,_⟩<;>omega
 have hcell:∀ j:Nat,((vs[j]?).getD nilS).oneCell'=true:=fun j=>by
  cases hj:vs[j]? with
  |none=>rfl
  |some u=>exact hc u (List.mem_of_getElem? hj)
 let T:Tok:=tokB H (fun j:Nat=>(vs[j]?).getD nilS) hcell
 have hval:∀ j u,vs[j]? = some u→T.val (0+j)=u:=fun j u hj=>by
  show (vs[0+j]?).getD nilS=u
  rw[Nat.zero_add,hj]; rfl
 have hL:∀ φ,@zAa T φ (oqs n 0) vs:=fun φ=>by
  have:=ZCx (T:=T) (φ:=φ) vs 0 hval
  rwa [hlen] at this
 obtain ⟨x,hx,hxv⟩:=row_rel (T:=T) hn hv
 have hφ:ZAh G [x] (G+1)=some x:=by rw[ZBi (i:=0)]; rfl
 have hone:∀ z:Img,z∈[x]→z=x:=fun z hz=>List.mem_singleton.1 hz
 have hr:@Rel T P (ZAh G [x]) (zAe G 0 .none [.cells true (oqs n 0)]) w:=
  mkRel hG h0 hgs rfl (by show G+1+1≤_; omega) (fun b hb=>by rw[List.mem_singleton] at hb; subst hb; rfl) (fun z hz=>by rw[hone z hz]; exact hx.lt hH) (fun i b hb=>by
   match i,hb with
   |0,hb=>
    simp only[List.getElem?_cons_zero,Option.some.injEq] at hb
    subst hb
    exact zBy hH hx hφ (hL _) fun v hv=>zBp (zCf hv)
   |i+1,hb=>simp at hb) hH
 have hI:Tells (ZAh G [x]) (zAe G 0 .none [.cells true (oqs n 0)]) H w:=tells_mk h0 (by show G+1+1≤_; omega) fun z hz=>by rw[hone z hz]; exact hx.img hH
 have hargs:@zAa T (ZAh G [x]) [.slice (Nat.succ G) 0 n n false 1] (#[v]:Array Value).toList:=
  @zAa.cons T _ _ _ _ _ (hxv _ _ hφ) (@zAa.nil T _)
 have hro:∀ q,q<(zAe G 0 .none [Blk.cells true (oqs n 0)]).next→((zAe G 0 .none [Blk.cells true (oqs n 0)]).get q).wr=false:=
  zCc h0 (by show G+1+1≤_; omega) rfl fun b hb=>by rw[List.mem_singleton] at hb; subst hb; rfl
 unfold cloneRun at hrun
 split at hrun
 · rename_i y m hq
   unfold putChk at hrun
   simp only[Bool.and_eq_true] at hrun
   obtain ⟨hfr,_,h1,h2⟩:=hrun
   refine (hK T rfl f _ _ _ m hq _ w _ hr hargs).mono fun cv w' ⟨φ',hst,hvc⟩=>⟨ZAb.of hst hro,?_⟩
   obtain ⟨r1,r2⟩:=idRel (T:=T) rfl hG (@Step.rel T P _ _ _ _ _ _ hst) h2
   have hsl:=r2 _ _ (absN_up h1) _ hvc
   obtain ⟨a1,a2⟩:=ZAu (G:=G) h0 (l:=[.cells true (oqs n 0)]) (by show G+1+1≤_; omega) (i:=0) (b:=.cells true (oqs n 0)) rfl
   exact zCl (tells_new h0 hst hro (by rw[show (zAe G 0 .none [Blk.cells true (oqs n 0)]).next=Nat.add 2 G by show G+1+1=2+G; omega]; exact hfr) h2) r1 hn a1 a2 (by omega) (fun us hus=>opq_unique (fun v hv=>zCf hv) hus (hL (ZAh G [x]))) hsl
 · cases hrun
end Go.AM
namespace Go.AM
variable {P:Program}
theorem mkRelW {T:Tok} {G:Nat} (hG:P.globals.size=G) (h0:0<G) {w:World} (hgs:G≤w.heap.size) {l:List Blk} {imgs:List Img} (hl:l.length=imgs.length) (hb:G+1+l.length≤65536)
 (hW:∀ (i:Nat) (b:Blk) (x:Img),l[i]? = some b→b.wr=true→imgs[i]? = some x→T.hold x.1=none∧∀ (j:Nat) (y:Img),imgs[j]? = some y→j≠i→y.1≠x.1)
 (hlt:∀ x,x∈imgs→x.1<w.heap.size) (hB:∀ i b,l[i]? = some b→@BRel T (ZAh G imgs) w (G+1+i) b) (hheld:∀ b o,T.hold b=some o→w.heap[b]? = some o):@Rel T P (ZAh G imgs) (zAe G 0 .none l) w:=by
 have hn:(zAe G 0 .none l).next=G+1+l.length:=ZAt l _
 have get:∀ p,p<65536→(zAe G 0 .none l).get p=if G+1≤p∧p<G+1+l.length then (l[p-(G+1)]?).getD .none else if p=0 then .none else .none:=fun p hp=>zAu h0 hb hp
 have hlive:∀ p,p<65536→((zAe G 0 .none l).get p).live=true→G+1≤p∧∃ b,l[p-(G+1)]? = some b∧(zAe G 0 .none l).get p=b:=by
  intro p hp hv
  rw[get p hp] at hv ⊢
  split
  · rename_i h1
    have h2:p-(G+1)<l.length:=by omega
    rw[List.getElem?_eq_getElem h2]
    exact ⟨h1.1,_,rfl,rfl⟩
  · rename_i h1
    rw[if_neg h1] at hv
    split at hv<;>cases hv
 have hwl:∀ b:Blk,b.wr=true→b.live=true:=fun b hb=>by cases b<;>first|rfl|(cases hb; done)
 refine @Rel.mk T P _ _ _ (by rw[hn]; omega) ?_ ?_ ?_ ?_ ?_ ?_ ?_ ?_ hheld ?_ (fun _=>by
  rw[get 0 (by decide),if_neg (by omega),if_pos rfl]; rfl)
 · intro p x hp
   rw[hn]
   unfold ZAh at hp
   split at hp
   · omega
   · split at hp
     · omega
     · have:p-(G+1)<imgs.length:=by
        rcases Nat.lt_or_ge (p-(G+1)) imgs.length with h|h
        · exact h
        · rw[List.getElem?_eq_none h] at hp; cases hp
       omega
 · intro p b o s hp hne
   rw[hG] at hne
   unfold ZAh at hp
   split at hp
   · cases hp; omega
   · first
      |exact hlt _ (List.mem_of_getElem? hp)
      |(rw[if_neg hne] at hp; exact hlt _ (List.mem_of_getElem? hp))
 · rw[hG]
   unfold ZAh
   rw[if_neg (by omega),if_pos rfl]
 · rw[hG,get G (by omega),if_neg (by omega)]
   split<;>rfl
 · intro g hg
   rw[hG] at hg
   exact ⟨0,by unfold ZAh; rw[if_pos hg]⟩
 · intro p hp
   rw[hn] at hp
   rw[get p (by omega)]
   split
   · rename_i h1
     have h2:p-(G+1)<l.length:=by omega
     rw[List.getElem?_eq_getElem h2]
     have:=hB (p-(G+1)) _ (List.getElem?_eq_getElem h2)
     rwa [show G+1+(p-(G+1))=p by omega] at this
   · split<;>trivial
 · intro p q b o s o' s' hp hq hne hw hv hφp hφq
   rw[hn] at hp hq
   obtain ⟨e1,bp,e2,e3⟩:=hlive p (by omega) (hwl _ hw)
   obtain ⟨f1,bq,f2,f3⟩:=hlive q (by omega) hv
   rw[e3] at hw
   have i1:imgs[p-(G+1)]? = some (b,o,s):=by rw[← ZBi (G:=G),show G+1+(p-(G+1))=p by omega]; exact hφp
   have i2:imgs[q-(G+1)]? = some (b,o',s'):=by rw[← ZBi (G:=G),show G+1+(q-(G+1))=q by omega]; exact hφq
   exact (hW _ _ _ e2 hw i1).2 _ _ i2 (by omega) rfl
 · intro p hp hlt'
   rw[hn] at hp
   rw[get p hlt',if_neg (by omega)]
   split<;>rfl
 · intro p b o s hp hw hφp
   rw[hn] at hp
   obtain ⟨e1,bp,e2,e3⟩:=hlive p (by omega) (hwl _ hw)
   rw[e3] at hw
   have i1:imgs[p-(G+1)]? = some (b,o,s):=by rw[← ZBi (G:=G),show G+1+(p-(G+1))=p by omega]; exact hφp
   exact (hW _ _ _ e2 hw i1).1
def ZAx (w:World) (p:Nat) (vs:List Value):Prop:=∃ c el fz,w.heap[p]? = some (.cells c el fz)∧c.toList=vs∧(∀ v,v∈vs→v.oneCell'=true)∧∀ i,i≤vs.length→¬ (fz.1≤i∧i<fz.2)
theorem ZAx.lt {w:World} {p:Nat} {vs:List Value} (h:ZAx w p vs):p<w.heap.size:=by
 obtain ⟨c,el,fz,h1,_⟩:=h
 exact @ZAq tok0 w p _ h1
theorem ZAx.brel {T:Tok} {φ:Phi} {w:World} {p q:Nat} {vs:List Value} {cs:List AVal} {ro:Bool} (h:ZAx w p vs) (hφ:φ q=some (p,0,vs.length)) (hv:@zAa T φ cs vs) (hc:∀ v,v∈cs→v.isCell=true):@BRel T φ w q (.cells ro cs):=by
 obtain ⟨c,el,fz,h1,h2,h3,h4⟩:=h
 have hl:=@zAa.length T φ _ _ hv
 have hs:c.size=vs.length:=by rw[← h2,Array.length_toList]
 refine ⟨p,0,c,el,fz,by rw[hφ,hs],h1,by omega,?_,hc,fun _ i _ hi=>⟨h4 i (by omega),fun x hx=>?_⟩⟩
 · rw[List.drop_zero,h2,List.take_of_length_le (by omega)]; exact hv
 · rw[← Array.getElem?_toList,h2] at hx
   exact h3 x (List.mem_of_getElem? hx)
theorem ZAx.of {T:Tok} (hst:T.strong=true) {φ:Phi} {m:Mem} {w:World} {p q n:Nat} {cs:List AVal} (hr:@Rel T P φ m w) (hq:q<m.next) (hg:m.get q=.cells false cs) (hφ:φ q=some (p,0,n)) (hn:cs.length=n):∃ vs,ZAx w p vs∧@zAa T φ cs vs:=by
 have:=@Rel.blk T P φ m w hr q hq
 rw[hg] at this
 obtain ⟨cb,co,c,el,fz,h1,h2,h3,h4,h5,h6⟩:=this
 rw[hφ] at h1
 cases h1
 have e:(c.toList.drop 0).take cs.length=c.toList:=by
  rw[List.drop_zero,List.take_of_length_le (by rw[Array.length_toList]; omega)]
 rw[e] at h4
 refine ⟨c.toList,⟨c,el,fz,h2,rfl,fun v hv=>?_,fun i hi=>?_⟩,h4⟩
 · obtain ⟨i,hi,rfl⟩:=List.getElem_of_mem hv
   exact (h6 rfl i (Nat.zero_le _) (.inl (by simpa using hi))).2 _ (by rw[← Array.getElem?_toList,List.getElem?_eq_getElem hi])
 · rw[Array.length_toList] at hi
   exact (h6 rfl i (Nat.zero_le _) (by
    rcases Nat.lt_or_eq_of_le hi with h|h
    · exact .inl h
    · exact .inr ⟨h,hst⟩)).1
end Go.AM
namespace Go.AM
variable {P:Program}
theorem any_mono {ops:Array Oper} {Q:Exit→Act→World→Prop}:∀ (f:Nat) {L:Array Bool} {a:Act} {w:World},wpAny P .any ops Q f L a w→wpAny P .any ops Q (f+1) L a w
 |0,L,a,w,⟨h1,h2⟩=>⟨fun _=>h2,by rw[h1]; intro i hi; cases hi⟩
 |f+1,L,a,w,⟨h1,h2⟩=>⟨h1,fun i hi=>wpOp_mono (fun a' w' h=>any_mono f h) (h2 i hi)⟩
theorem any_add {ops:Array Oper} {Q:Exit→Act→World→Prop} {f:Nat} {L:Array Bool} {a:Act} {w:World} (h:wpAny P .any ops Q f L a w):∀ k,wpAny P .any ops Q (k+f) L a w
 |0=>by rw[Nat.zero_add]; exact h
 |k+1=>by rw[show k+1+f=k+f+1 by omega]; exact any_mono _ (any_add h k)
structure FullTo (n s:Nat) (L:Array Bool):Prop where
 size:L.size=s
 lo:∀ i,i<n→L.getD i false=true
 hi:∀ j,n≤j→L.getD j false=false
def cutQ (P:Program) (ops:Array Oper) (n r:Nat) (Q:Exit→Act→World→Prop):Exit→Act→World→Prop
 | .normal,a,w=>∀ L,FullTo n ops.size L→wpAny P .any ops Q r L a w
 |e,a,w=>Q e a w
theorem wpOp_cut {ops pre:Array Oper} {n r i:Nat} {Q:Exit→Act→World→Prop} (hi:pre[i]? = ops[i]?) (hs:i<pre.size) (hgd:∀ o,pre[i]? = some o→o.guard=none) {K K':Act→World→Prop} (hK:∀ a w,K a w→K' a w) {a:Act} {w:World}
 (h:wpOp P pre (cutQ P ops n r Q) i K a w):wpOp P ops Q i K' a w:=by
 have ho:=Array.getElem?_eq_getElem hs
 generalize pre[i]=o at ho
 have hg:=hgd o ho
 unfold wpOp at h ⊢
 rw[ho] at h
 rw[← hi,ho]
 have hw:∀ y:Array Oper,Region.wanted o (yielded y a.tmps)=true:=fun y=>by unfold Region.wanted; rw[hg]
 simp only[hw,if_true] at h ⊢
 rcases h with h|⟨h1,h2⟩
 · left
   unfold Oper.wp at *
   generalize (execOp a.eval o).run P w=res at *
   cases res with
   |ok nx w'=>
    cases nx<;>simp only[Oper.upon] at h ⊢ <;>
     first
      |exact hK _ _ h
      |exact Calls.mono h (fun e w'' he=>by cases e<;>first|exact hK _ _ he|exact he)
      |exact Rows.mono h (fun _ _ he=>hK _ _ he)
   |halt x w'=>cases x<;>simp only[Oper.upon] at h ⊢<;>exact h
 · exact .inr ⟨h1,h2⟩
theorem any_cut {ops pre:Array Oper} {n r:Nat} {A:List Nat} {Q:Exit→Act→World→Prop} (hlin:@Lin ops A) (hn:pre.size=n) (hle:n≤ops.size) (hpre:∀ i,i<n→pre[i]? = ops[i]?) (hgd:∀ (i:Nat) (o:Oper),pre[i]? = some o→o.guard=none)
 (hcov:∀ j,n≤j→j<ops.size→∀ i,i<n→tb (zBa A j) i=true):∀ (f:Nat) {L L':Array Bool} {a:Act} {w:World},L.size=n→L'.size=ops.size→(∀ i,i<n→L'.getD i false=L.getD i false)→(∀ j,n≤j→L'.getD j false=false)→
 (∀ i,i<n→L.getD i false=true→∀ y,tb (zBa A i) y=true→L.getD y false=true)→wpAny P .any pre (cutQ P ops n r Q) f L a w→wpAny P .any ops Q (f+r) L' a w:=by
 have first:∀ {L:Array Bool},L.size=n→(∃ i,i<n∧L.getD i false=false)→∃ i,i<n∧L.getD i false=false∧∀ k,k<i→L.getD k false=true:=by
  intro L hL ⟨i,hi,hf⟩
  induction i using Nat.strongRecOn with
  |ind i ih=>
   by_cases h:∃ k,k<i∧L.getD k false=false
   · obtain ⟨k,hk,hkf⟩:=h
     exact ih k hk (by omega) hkf
   · refine ⟨i,hi,hf,fun k hk=>?_⟩
     cases hv:L.getD k false with
     |true=>rfl
     |false=>exact absurd ⟨k,hk,hv⟩ h
 have getT:∀ {L:Array Bool} {i:Nat},i<L.size→L.getD i true=L.getD i false:=by
  intro L i hi
  simp[hi]
 have rdy:∀ {L L':Array Bool} {i:Nat},L.size=n→L'.size=ops.size→(∀ i,i<n→L'.getD i false=L.getD i false)→i<n→(i∈Region.ready .any pre L ↔ i∈Region.ready .any ops L'):=by
  intro L L' i hL hL' hs hi
  rw[@ZCu tok0,@ZCu tok0]
  have e1:L.getD i true=L'.getD i true:=by rw[getT (by omega),getT (by omega)]; exact (hs i hi).symm
  constructor
  · rintro ⟨g1,g2,o,g3,g4⟩
    refine ⟨by omega,by rw[← e1]; exact g2,o,by rw[← hpre i hi]; exact g3,fun e he hb=>?_⟩
    have hlt:=hlin.back i o (by rw[← hpre i hi]; exact g3) e he hb
    rw[hs _ (by omega)]; exact g4 e he hb
  · rintro ⟨g1,g2,o,g3,g4⟩
    refine ⟨by omega,by rw[e1]; exact g2,o,by rw[hpre i hi]; exact g3,fun e he hb=>?_⟩
    have hlt:=hlin.back i o g3 e he hb
    rw[← hs _ (by omega)]; exact g4 e he hb
 have full:∀ {L L':Array Bool},L'.size=ops.size→(∀ i,i<n→L'.getD i false=L.getD i false)→(∀ j,n≤j→L'.getD j false=false)→(∀ i,i<n→L.getD i false=true)→FullTo n ops.size L':=
  fun h1 h2 h3 h4=>⟨h1,fun i hi=>(h2 i hi).trans (h4 i hi),h3⟩
 intro f
 induction f with
 |zero=>
  intro L L' a w hL hL' hs hhi hdn ⟨h1,h2⟩
  rw[Nat.zero_add]
  refine h2 L' (full hL' hs hhi fun i hi=>?_)
  cases hv:L.getD i false with
  |true=>rfl
  |false=>
   obtain ⟨k,hk,hkf,hlt⟩:=first hL ⟨i,hi,hv⟩
   have:k∈Region.ready .any pre L:=by
    rw[rdy hL hL' hs hk,@ZCu tok0]
    have ho:=Array.getElem?_eq_getElem (show k<ops.size by omega)
    refine ⟨by omega,by rw[getT (by omega),hs k hk]; exact hkf,_,ho,fun e he hb=>?_⟩
    have hb':=hlin.back k _ ho e he hb
    rw[hs _ (by omega)]; exact hlt _ hb'
   rw[h1] at this; cases this
 |succ f ih=>
  intro L L' a w hL hL' hs hhi hdn ⟨h1,h2⟩
  by_cases hall:∀ i,i<n→L.getD i false=true
  · have hnil:Region.ready .any pre L=[]:=by
     apply List.eq_nil_iff_forall_not_mem.2
     intro i hi
     obtain ⟨g1,g2,_⟩:=(@ZCu tok0 _ _ _).1 hi
     rw[getT (by omega),hall i (by omega)] at g2; cases g2
    exact any_add (h1 hnil L' (full hL' hs hhi hall)) (f+1)
  · obtain ⟨i0,hi0,hf0⟩:∃ i,i<n∧L.getD i false=false:=by
     apply Classical.byContradiction
     intro hno
     refine hall fun i hi=>?_
     cases hv:L.getD i false with
     |true=>rfl
     |false=>exact absurd ⟨i,hi,hv⟩ hno
    obtain ⟨k,hk,hkf,hlt⟩:=first hL ⟨i0,hi0,hf0⟩
    rw[show f+1+r=f+r+1 by omega]
    refine ⟨fun hnil=>?_,fun i hi=>?_⟩
    · have:k∈Region.ready .any ops L':=by
       rw[@ZCu tok0]
       have ho:=Array.getElem?_eq_getElem (show k<ops.size by omega)
       refine ⟨by omega,by rw[getT (by omega),hs k hk]; exact hkf,_,ho,fun e he hb=>?_⟩
       have hb':=hlin.back k _ ho e he hb
       rw[hs _ (by omega)]; exact hlt _ hb'
      rw[hnil] at this; cases this
    · obtain ⟨g1,g2,o,g3,g4⟩:=(@ZCu tok0 _ _ _).1 hi
      have listedE:∀ e,e∈o.after.toList→Region.binds .any e=true→e.on<n∧L.getD e.on false=true:=by
       intro e he hb
       have h3:=g4 e he hb
       rcases Nat.lt_or_ge e.on n with h4|h4
       · exact ⟨h4,by rw[← hs _ h4]; exact h3⟩
       · rw[hhi _ h4] at h3; cases h3
      have hin:i<n:=by
       rcases Nat.lt_or_ge i n with h|h
       · exact h
       · exfalso
         have hc:=hcov i h g1 k hk
         rw[hlin.anc i o g3,@anc_iff tok0] at hc
         obtain ⟨e,he,hb,hy⟩:=hc
         obtain ⟨q1,q2⟩:=listedE e he hb
         rcases hy with rfl|hy
         · rw[hkf] at q2; cases q2
         · have:=hdn _ q1 q2 k hy
           rw[hkf] at this; cases this
      have hi':=(rdy hL hL' hs hin).2 hi
      refine wpOp_cut (hpre i hin) (by omega) (hgd i) (fun a' w' h=>?_) (h2 i hi')
      have getS:∀ {M:Array Bool} {j:Nat},i<M.size→(M.setIfInBounds i true).getD j false=if i=j then true else M.getD j false:=by
       intro M j hM
       rw[Array.getD_eq_getD_getElem?,Array.getElem?_setIfInBounds,Array.getD_eq_getD_getElem?]
       by_cases e:i=j
       · rw[if_pos e,if_pos e,if_pos hM]; rfl
       · rw[if_neg e,if_neg e]
      refine ih (by simp[hL]) (by simp[hL']) (fun j hj=>?_) (fun j hj=>?_) (fun j hj hjt y hy=>?_) h
      · rw[getS (by omega),getS (by omega),hs j hj]
      · rw[getS (by omega),if_neg (by omega)]; exact hhi j hj
      · rw[getS (by omega)] at hjt ⊢
        by_cases e:i=y
        · rw[if_pos e]
        · rw[if_neg e]
          by_cases e2:i=j
          · subst e2
            rw[hlin.anc i o g3,@anc_iff tok0] at hy
            obtain ⟨e',he,hb,hy⟩:=hy
            obtain ⟨q1,q2⟩:=listedE e' he hb
            rcases hy with rfl|hy
            · exact q2
            · exact hdn _ q1 q2 y hy
          · rw[if_neg e2] at hjt
            exact hdn j hj hjt y hy
section
variable [Tok]
theorem draw_any {K:KH} (hK:zBb P K) {nt:Nat} {ops:Array Oper} (hg:ops.toList.all (ZBo P.globals.size)=true) {r:Regs} {m:Mem} {k:Ct} {v:AVal} {mf:Mem} (h:(cDraw P nt ops).run K r m k=.ok v mf)
 {φ:Phi} {w:World} {a:Act} {Q:Exit→Act→World→Prop} (hr:Rel P φ m w) (ha:RRel φ nt r a) (hn:∀ φ' r' m' a' w',Step P φ m w φ' m' w'→RRel φ' nt r' a'→k r' m'=.ok v mf→Q .normal a' w') :
 Lin ops (ancs ops.toList [])∧wpAny P .any ops Q ops.size (Array.replicate ops.size false) a { w with drawn:=w.drawn+1 }:=by
 unfold cDraw at h
 simp only at h
 split at h
 · rename_i hd
   unfold drawOk at hd
   simp only[Bool.and_eq_true] at hd
   obtain ⟨⟨⟨⟨⟨h1,h2⟩,h3⟩,h4⟩,h5⟩,h6⟩:=hd
   obtain ⟨hroom,h7⟩:=zAm h
   rw[ZAs] at h7
   rw[zAd] at hroom
   rw[List.all_eq_true] at h5 h6
   obtain ⟨sf,hR,hk⟩:=runs_of_seq (P:=P) (s:=⟨r,⟨m.next+_,m.t⟩,fun _=>.none,fun _=>none⟩) h7
   have hsz:=beq_true.1 h4
   have hst:=(Step.raise (n:=_) hr hroom).congr (w'':={ w with drawn:=w.drawn+1 }) rfl rfl rfl rfl
   refine ⟨lin_ok h1,any_ok (m0:=m) (φ0:=φ) (w0:=w) (φ:=φ) hK h3 hg (lin_ok h1) (fun j o ho hh=>heavies_ok ho hh) ha.le (sf:=sf) (fun φ' a' w' hs hr'=>hn φ' _ _ a' w' hs hr' hk) ops.size hsz h2 ?_ ?_ hR⟩
   · refine ⟨fun j hj=>?_,fun j hj hno=>?_,fun j hj=>?_,fun j hj hno=>?_⟩
     · have:=h5 j hj
       rw[Nat.blt_eq] at this
       simp[this]
     · exact absurd (List.contains_iff_mem.1 (h6 j (List.mem_range.2 hj))) hno
     · have:=h5 j hj
       rw[Nat.blt_eq] at this; exact this
     · exact absurd (List.contains_iff_mem.1 (h6 j (List.mem_range.2 hj))) hno
   · have hput:∀ (l:List (Nat×Nat)) (m1:Mem),zBz m.next (fun _=>Blk.none) l m1=m1:=by
      intro l
      induction l with
      |nil=>intro m1; rfl
      |cons y l ih=>intro m1; obtain ⟨j,q⟩:=y; exact ih m1
     refine ⟨by rw[hput]; exact hst,ha,Nat.le_refl _,fun e he hl=>(by cases hl),fun e he _=>⟨?_,?_,rfl⟩,fun _ _=>rfl⟩
     · cases hq:φ (m.next+e.2) with
       |none=>rfl
       |some y=>have:=hr.dom _ _ hq; omega
     · exact hr.clean _ (Nat.le_add_right _ _) (by have:=alOk_lt h3 e he; have hroom':m.next+(allocsOf 0 0 (List.map (cOper P) ops.toList)).length≤65536:=hroom; omega)
 · cases h
end
def cutOk (ops pre:Array Oper) (n:Nat):Bool:=
 Nat.beq pre.size n&&Nat.ble n ops.size&&(pre.toList.all fun o=>o.guard.isNone)&&linOk ops (ancs ops.toList []) (ops.toList.map fun o=>(zBr ops o,ZBu o)) &&
  ((List.range ops.size).all fun j=>Nat.blt j n||((List.range n).all fun i=>tb (zBa (ancs ops.toList []) j) i))
def preRun (P:Program) (nt:Nat) (K:KH) (pre:Array Oper) (l:List (Nat×AVal)) (ts:List Nat) (m:Mem):R:=(cDraw P nt pre).run K (pickR l) m fun r m=>.ok (outT ts r) m
theorem region_cut (hm:P.follows .mixedOrders=true) {T:Tok} {K:KH} (hK:@zBb T P K) {nt n:Nat} {ops pre:Array Oper} (hcut:cutOk ops pre n=true) (hpre:∀ i,i<n→pre[i]? = ops[i]?) (hg:pre.toList.all (ZBo P.globals.size)=true) {l:List (Nat×AVal)} {ts:List Nat} {vs:List AVal} {m mf:Mem}
 (h:preRun P nt K pre l ts m=.ok (.tuple vs) mf) {φ:Phi} {w:World} {a:Act} {Q:Exit→Act→World→Prop} (hr:@Rel T P φ m w) (ha:zBc nt a) (hnt:nt≤4096) (hl:∀ p,p∈l→p.1<4096∧@VRel T φ p.2 (a.tmps.getD p.1 undef))
 (hn:∀ φ' a' w',@Step T P φ m w φ' mf w'→zBc nt a'→@zAa T φ' vs (zCe ts a')→wpAny P .any ops Q (ops.size-n) (Array.replicate n true++Array.replicate (ops.size-n) false) a' w') {id:Nat}:(Code.region id ops true).wp P Q a w:=by
 unfold cutOk at hcut
 simp only[Bool.and_eq_true,beq_true,zAd] at hcut
 obtain ⟨⟨⟨⟨h1,h2⟩,h3⟩,h4⟩,h5⟩:=hcut
 rw[List.all_eq_true] at h3 h5
 have hlin:=@lin_ok tok0 _ _ h4
 obtain ⟨_,hany⟩:=@draw_any P T K hK nt pre hg _ _ _ _ _ h φ w a (cutQ P ops n (ops.size-n) Q) hr (@pick_rel T _ _ _ ha hnt _ hl) (fun φ' r' m' a' w' hst ha' h1=>by
  have h4:R.ok (.tuple (ts.map fun t=>(opd (.tmp t)).get r')) m'=.ok (.tuple vs) mf:=h1
  injection h4 with h5 h6
  injection h5 with h5
  subst h5
  subst h6
  intro L hL
  have e:L=Array.replicate n true++Array.replicate (ops.size-n) false:=by
   refine Array.ext (by rw[hL.size]; simp; omega) fun i hi1 hi2=>?_
   have key:∀ b,L.getD i false=b→L[i]=b:=fun b hb=>by rw[← hb]; simp[hi1]
   rw[Array.getElem_append]
   split
   · rename_i hlt
     exact key _ ((hL.lo i (by simpa using hlt)).trans (by simp))
   · rename_i hge
     exact key _ ((hL.hi i (by simpa using hge)).trans (by simp))
  rw[e]
  exact hn φ' a' w' hst (@RRel.is T _ _ _ _ ha') (@out_rel T _ _ _ _ ha' ts))
 have rep:∀ s j:Nat,(Array.replicate s false).getD j false=false:=fun s j=>by
  rw[Array.getD_eq_getD_getElem?,Array.getElem?_replicate]; split<;>rfl
 refine wp_region_any hm ?_
 have:=any_cut (Q:=Q) (r:=ops.size-n) hlin h1 h2 hpre (fun i o ho=>by
  have:=h3 o (Array.mem_toList_iff.2 (Array.mem_of_getElem? ho))
  cases hg:o.guard with
  |none=>rfl
  |some g=>rw[hg] at this; cases this) (fun j hj hjs i hi=>by
  have:=h5 j (List.mem_range.2 hjs)
  rw[Bool.or_eq_true] at this
  rcases this with h6|h6
  · rw[Nat.blt_eq] at h6; omega
  · exact (List.all_eq_true.1 h6) i (List.mem_range.2 hi)) pre.size (L':=Array.replicate ops.size false) (by simp[h1]) (by simp) (fun i hi=>by rw[rep,rep]) (fun j hj=>rep _ _) (fun i hi hf=>by rw[rep] at hf; cases hf) hany
 rwa [show pre.size+(ops.size-n)=ops.size by omega] at this
end Go.AM
namespace Go.AM
variable {P:Program}
def oneRun (P:Program) (nt:Nat) (K:KH) (X:Code) (W:Ways) (l:List (Nat×AVal)) (ts:List Nat) (m:Mem):R:=
 (cCode P nt X).run K (fun i r m=>zAc (.ok (outT ts r) m) (.fail 87) (W.ex i)) (fun r m=>zAc (.ok (outT ts r) m) (.fail 87) W.rr) (fun r m=>zAc (.ok (outT ts r) m) (.fail 87) W.nn) (pickR l) m
section
variable [Tok]
theorem one_ok {K:KH} (hK:zBb P K) (hD:DrawOk P K) {nt:Nat} {X:Code} (hg:ZBh P.globals.size X=true) {W:Ways} {l:List (Nat×AVal)} {ts:List Nat} {vs:List AVal} {m mf:Mem} (h:oneRun P nt K X W l ts m=.ok (.tuple vs) mf)
 {φ:Phi} {w:World} {a:Act} {Q:Exit→Act→World→Prop} (hr:Rel P φ m w) (ha:zBc nt a) (hnt:nt≤4096) (hl:∀ p,p∈l→p.1<4096∧VRel φ p.2 (a.tmps.getD p.1 undef))
 (hn:W.nn=true→∀ φ' a' w',Step P φ m w φ' mf w'→zBc nt a'→zAa φ' vs (zCe ts a')→Q .normal a' w')
 (he:∀ i,W.ex i=true→∀ φ' a' w',Step P φ m w φ' mf w'→zBc nt a'→zAa φ' vs (zCe ts a')→Q (.exit i) a' w')
 (hrt:W.rr=true→∀ φ' a' w',Step P φ m w φ' mf w'→zBc nt a'→zAa φ' vs (zCe ts a')→Q .ret a' w'):X.wp P Q a w:=by
 have inj:∀ {b:Bool} {r':Regs} {m':Mem},zAc (R.ok (outT ts r') m') (.fail 87) b=.ok (.tuple vs) mf→b=true∧m'=mf∧(ts.map fun t=>(opd (.tmp t)).get r')=vs:=by
  intro b r' m' h1
  obtain ⟨h2,h3⟩:=zAm h1
  have h4:R.ok (.tuple (ts.map fun t=>(opd (.tmp t)).get r')) m'=.ok (.tuple vs) mf:=h3
  injection h4 with h5 h6
  injection h5 with h5
  exact ⟨h2,h6,h5⟩
 refine zCr hK hD X hg h hr (pick_rel ha hnt hl) ?_ ?_ ?_
 · intro φ' r' m' a' w' hst ha' h1
   obtain ⟨h2,rfl,rfl⟩:=inj h1
   exact hn h2 φ' a' w' hst ha'.is (out_rel ha' ts)
 · intro i φ' r' m' a' w' hst ha' h1
   obtain ⟨h2,rfl,rfl⟩:=inj h1
   exact he i h2 φ' a' w' hst ha'.is (out_rel ha' ts)
 · intro φ' r' m' a' w' hst ha' h1
   obtain ⟨h2,rfl,rfl⟩:=inj h1
   exact hrt h2 φ' a' w' hst ha'.is (out_rel ha' ts)
end
def zBk (p:Nat) (w w':World):Prop:=(∀ b,b<w.heap.size→b≠p→w'.heap[b]? = w.heap[b]?)∧w.heap.size≤w'.heap.size∧w'.os=w.os∧w'.output=w.output∧w'.tape=w.tape
theorem zBk.of {w w':World} {p:Nat} (h:ZAb w w'):zBk p w w':=⟨fun b hb _=>h.1 b hb,h.2⟩
theorem zBk.trans {w w' w'':World} {p:Nat} (h:zBk p w w') (h':zBk p w' w''):zBk p w w'':=
 ⟨fun b hb hne=>(h'.1 b (Nat.lt_of_lt_of_le hb h.2.1) hne).trans (h.1 b hb hne),Nat.le_trans h.2.1 h'.2.1,h'.2.2.1.trans h.2.2.1,h'.2.2.2.1.trans h.2.2.2.1,h'.2.2.2.2.trans h.2.2.2.2⟩
structure CallAt (ops:Array Oper) (i d:Nat) (g:FuncId) (ts:List Nat):Prop where
 is:∃ o,ops[i]? = some o∧o.guard=none∧o.dst=some d∧callOf o.op=some (.value (.func g),ts.map Operand.tmp)
theorem callAt_run {o:Oper} {g:FuncId} {ts:List Nat} (h:callOf o.op=some (.value (.func g),ts.map Operand.tmp)) {a:Act} {w:World}:(execOp a.eval o).run P w=(callFunc g (ts.map fun t=>a.tmps.getD t undef).toArray).run P w:=by
 cases ho:o.op<;>first|(rw[ho] at h; cases h; done)|skip
 rename_i c
 rw[ho] at h
 simp only[callOf,Option.some.injEq,Prod.mk.injEq] at h
 obtain ⟨h1,h2⟩:=h
 have h3:c.args=(ts.map Operand.tmp).toArray:=by rw[← h2]
 have e:(fun x:Operand=>a.eval x)=a.eval:=rfl
 have h4:c.args.map a.eval=(ts.map fun t=>a.tmps.getD t undef).toArray:=by
  rw[h3]
  simp[Act.eval,Function.comp_def]
 simp[execOp,ho,resolve,h1,h4,Act.eval,Deferred.ofValue,invoke]
theorem any_call {ops:Array Oper} {Q:Exit→Act→World→Prop} {i d:Nat} {g:FuncId} {ts:List Nat} {fuel:Nat} {L:Array Bool} {a:Act} {w:World} (h:CallAt ops i d g ts) (hr:Region.ready .any ops L=[i]) {R':Value→World→Prop} (hE:Ends P g (ts.map fun t=>a.tmps.getD t undef).toArray w R')
 (hn:∀ c w',R' c w'→wpAny P .any ops Q fuel (L.setIfInBounds i true) (a.put (some d) c) w'):wpAny P .any ops Q (fuel+1) L a w:=by
 obtain ⟨o,h1,h2,h3,h4⟩:=h.is
 refine wpAny_all hr (by simp) fun j hj=>?_
 rw[List.mem_singleton] at hj
 subst hj
 unfold wpOp
 rw[h1]
 simp only
 have hwant:Region.wanted o (yielded ops a.tmps)=true:=by unfold Region.wanted; rw[h2]
 rw[if_pos hwant]
 left
 letI:=tok0
 exact ends_wp (callAt_run h4) hE fun c w' hR=>by rw[h3]; exact hn c w' hR
theorem any_val {ops:Array Oper} {Q:Exit→Act→World→Prop} {i d:Nat} {op:Op} {fuel:Nat} {L:Array Bool} {a:Act} {w:World} (h:OpAt ops i d op) (hr:Region.ready .any ops L=[i]) {v:Value} (hx:∀ o:Oper,o.op=op→(execOp a.eval o).run P w=.ok (.value v) w)
 (hn:wpAny P .any ops Q fuel (L.setIfInBounds i true) (a.put (some d) v) w):wpAny P .any ops Q (fuel+1) L a w:=by
 obtain ⟨o,h1,h2,h3,h4⟩:=h.is
 refine wpAny_all hr (by simp) fun j hj=>?_
 rw[List.mem_singleton] at hj
 subst hj
 unfold wpOp
 rw[h1]
 simp only
 have hwant:Region.wanted o (yielded ops a.tmps)=true:=by unfold Region.wanted; rw[h2]
 rw[if_pos hwant]
 left
 unfold Oper.wp
 rw[hx o h4,Oper.upon_value,h3]
 exact hn
theorem any_first {ops:Array Oper} {Q:Exit→Act→World→Prop} {i d:Nat} {op:Op} {fuel:Nat} {L:Array Bool} {a:Act} {w:World} (h:OpAt ops i d op) (hs:Region.noSelect ops=true) (hf:Region.free .any ops L i=true) (hr:(Region.ready .any ops L).contains i=true)
 (hQ:∀ c a w v,Q (.panic c) (a.put (some d) v) w→Q (.panic c) a w) {v:Value} (hx:∀ (o:Oper) (w:World),o.op=op→(execOp a.eval o).run P w=.ok (.value v) w)
 (hn:wpAny P .any ops Q fuel (L.setIfInBounds i true) (a.put (some d) v) w):wpAny P .any ops Q (fuel+1) L a w:=by
 obtain ⟨o,h1,h2,h3,h4⟩:=h.is
 refine wpAny_take h1 hs hf hr (fun c a w hc=>hQ c a w v (by rw[h3] at hc; exact hc)) (.inl ⟨?_,fun w=>hx o w h4⟩) (by rw[h3]; exact hn)
 unfold Region.wanted; rw[h2]
theorem run_ex {a:Act} {w:World} {o:Oper} {t i:Nat} (h:o.op=.extract (.tmp t) i) {vs:Array Value} {v:Value} (ht:a.tmps.getD t undef=.tuple vs) (hv:vs[i]? = some v):(execOp a.eval o).run P w=.ok (.value v) w:=by
 simp[execOp,h,Act.eval,ht,Instr.extract,hv]
theorem ZBx {f:FuncId} {fn:Func} {B:Code} (hf:P.funcs[f]? = some fn) (hname:fn.name≠ "runtime.NumGoroutine") (hb:fn.body=some B) {args:Array Value} {w:World}:(callFunc f args).run P w=.ok (.enter f args) w:=by
 simp[callFunc,hf,hname,hb]
theorem args_reg {T:Tok} {φ:Phi} {fn:Func} {cargs:Array Value} {l:List AVal} (hv:@zAa T φ l cargs.toList) {t:Nat} {v:AVal} (ht:l[t]? = some v):@VRel T φ v ((cargs++Array.replicate (fn.ntmps-cargs.size) undef).getD t undef):=by
 obtain ⟨c,h1,h2⟩:=@zAa.get T φ _ _ hv t v ht
 rw[Array.getElem?_toList] at h1
 have h3:t<cargs.size:=by
  rcases Nat.lt_or_ge t cargs.size with h|h
  · exact h
  · rw[Array.getElem?_eq_none h] at h1; cases h1
 rw[Array.getD_eq_getD_getElem?,Array.getElem?_append_left h3,h1]
 exact h2
end Go.AM
namespace Go.AM
open Go.Proofs
def B98:Code:=bodyOf TZ 98
def R98:Code:=sl B98
def O98:Array Oper:=opsOf (sl (sr B98))
def Pre98:Array Oper:=(O98.toList.take 9).toArray
def X98:Code:=sr (sr B98)
theorem b98_is:B98=.seq R98 (.seq (.region 1 O98 true) X98):=by kernel_rfl
def L98:Nat→Array Bool
 |0=>Array.replicate 9 true++Array.replicate (O98.size-9) false
 |n+1=>(L98 n).setIfInBounds (9+n) true
theorem r98_9:Region.ready .any O98 (L98 0)=[9]:=by kernel_rfl
theorem r98_10:Region.ready .any O98 (L98 1)=[10]:=by kernel_rfl
theorem r98_11:(Region.ready .any O98 (L98 2)).contains 11=true:=by kernel_rfl
theorem r98_12:(Region.ready .any O98 (L98 3)).contains 12=true:=by kernel_rfl
theorem r98_13:Region.ready .any O98 (L98 4)=[13]:=by kernel_rfl
theorem r98_14:Region.ready .any O98 (L98 5)=[14]:=by kernel_rfl
theorem r98_15:Region.ready .any O98 (L98 6)=[]:=by kernel_rfl
theorem f98_11:Region.free .any O98 (L98 2) 11=true:=by kernel_rfl
theorem f98_12:Region.free .any O98 (L98 3) 12=true:=by kernel_rfl
theorem s98:Region.noSelect O98=true:=by kernel_rfl
theorem z98:O98.size=15:=by kernel_rfl
theorem opAtB {ops:Array Oper} {i d:Nat} {op:Op} (h1:ops[i]? = some ((ops[i]?).getD default)) (h2:((ops[i]?).getD default).guard=none) (h3:((ops[i]?).getD default).dst=some d) (h4:((ops[i]?).getD default).op=op):OpAt ops i d op:=⟨_,h1,h2,h3,h4⟩
theorem callAtB {ops:Array Oper} {i d:Nat} {g:FuncId} {ts:List Nat} (h1:ops[i]? = some ((ops[i]?).getD default)) (h2:((ops[i]?).getD default).guard=none) (h3:((ops[i]?).getD default).dst=some d) (h4:callOf ((ops[i]?).getD default).op=some (.value (.func g),ts.map Operand.tmp)):CallAt ops i d g ts:=⟨_,h1,h2,h3,h4⟩
theorem o98_9:CallAt O98 9 19 159 [13,18]:=callAtB (by kernel_rfl) (by kernel_rfl) (by kernel_rfl) (by kernel_rfl)
theorem o98_10:OpAt O98 10 9 (.move (.tmp 19)):=opAtB (by kernel_rfl) (by kernel_rfl) (by kernel_rfl) (by kernel_rfl)
theorem o98_11:OpAt O98 11 20 (.extract (.tmp 9) 0):=opAtB (by kernel_rfl) (by kernel_rfl) (by kernel_rfl) (by kernel_rfl)
theorem o98_12:OpAt O98 12 21 (.extract (.tmp 9) 1):=opAtB (by kernel_rfl) (by kernel_rfl) (by kernel_rfl) (by kernel_rfl)
theorem o98_13:OpAt O98 13 7 (.assign (.tmp 20)):=opAtB (by kernel_rfl) (by kernel_rfl) (by kernel_rfl) (by kernel_rfl)
theorem o98_14:OpAt O98 14 8 (.assign (.tmp 21)):=opAtB (by kernel_rfl) (by kernel_rfl) (by kernel_rfl) (by kernel_rfl)
theorem c98:cutOk O98 Pre98 9=true:=by kernel_rfl
theorem g98:Pre98.toList.all (ZBo TZ.globals.size)=true:=by kernel_rfl
theorem gr98:[R98].all (ZBh TZ.globals.size)=true:=by kernel_rfl
theorem gx98:ZBh TZ.globals.size X98=true:=by kernel_rfl
def fn98:Func:=(TZ.funcs[98]?).getD default
theorem fn98_is:TZ.funcs[98]? = some fn98:=by kernel_rfl
theorem fn98_body:fn98.body=some B98:=by kernel_rfl
theorem fn98_nt:fn98.ntmps=46:=by kernel_rfl
theorem fn98_res:fn98.results.toList=[.tmp 6]:=by kernel_rfl
def put1L (nk:Nat):List Blk:=[.cells true [.opq 0,.any],.cells true (oqs nk 1),.cells true (oqs 1 40)]
def put1Run (nk:Nat):Bool:=
 match zBv TZ 46 KO [R98] ⟨true,fun _=>false,false⟩ [(0,.ptr 3 0),(1,.slice 4 0 nk nk false 1),(2,.slice 5 0 1 1 false 1)] [0,1,2] (zAe 2 0 .none (put1L nk)) with
 | .ok (.tuple vs) m1=>match preRun TZ 46 KO Pre98 ([0,1,2].zip vs) [0,13,18] m1 with
  | .ok (.tuple [x0,x13,.agg [a,b]]) mf=>
   and (and (aeqN 2 x0 (.ptr 3 0)) (aeqN 2 x13 (.opq 0))) (and (freshNs 6 [nmOf a,nmOf b]) (and (and (absN (zAx 2 [nmOf a,nmOf b]) 2 (.slice 3 0 nk nk false 1) a) (absN (zAx 2 [nmOf a,nmOf b]) 2 (.slice 4 0 1 1 false 1) b))
    (zAp (zAx 2 [nmOf a,nmOf b]) 0 .none [.cells true (oqs nk 1),.cells true (oqs 1 40)] mf)))
  |_=>false
 |_=>false
def kN:Bool→Nat
 |false=>1
 |true=>2
def put2L (two:Bool) (n:Nat):List Blk:=[.cells false [.any,.int .i64 (.ofNat n)],.cells true (oqs (kN two) 1)]
def put2E (two:Bool) (n:Nat) (m:Mem):Bool:=
 match two with
 |false=>zAp (zAx 2 [3]) 0 .none [.cells false [.opq 1,.int .i64 (.ofNat (Nat.succ n))]] m
 |true=>(match m.get 3 with
  | .cells _ (.ptr q _::_)=>and (freshNs 5 [q]) (zAp (zAx 2 [3,q,4]) 0 .none [.cells false [.ptr 4 0,.int .i64 (.ofNat (Nat.succ n))],.cells true [.nilslice,.nilslice,.slice 5 0 2 2 false 1],.cells true (oqs 2 1)] m)
  |_=>false)
def put2Run (two:Bool) (n:Nat):Bool:=
 match oneRun TZ 46 KO X98 ⟨false,fun _=>false,true⟩ [(0,.ptr 3 0),(7,.slice 4 0 (kN two) (kN two) false 1),(8,.bool true)] [6] (zAe 2 0 .none (put2L two n)) with
 | .ok (.tuple [_]) m=>put2E two n m
 |_=>false
theorem put1_17:put1Run 17=true:=by kernel_rfl
theorem put1_18:put1Run 18=true:=by kernel_rfl
theorem put1_26:put1Run 26=true:=by kernel_rfl
theorem put2_all:(List.range 51).all (fun n=>put2Run false n&&put2Run true n)=true:=by kernel_rfl
end Go.AM
namespace Go.AM
open Go.Proofs
def zAl (bs:List UInt8):List Value:=bs.map fun x=>.int .u8 (x.toNat:Int)
theorem ZAc (bs:List UInt8):(zAl bs).length=bs.length:=List.length_map _
theorem bytesV_cell {bs:List UInt8} {u:Value} (h:u∈zAl bs):u.oneCell'=true:=by
 obtain ⟨x,_,rfl⟩:=List.mem_map.1 h; rfl
theorem bytes_of_row {H:Heap} {v:Value} {bs:List UInt8} (h:ZAk H 1 v bs.length (zAl bs)):zAy H v bs:=by
 rcases h with ⟨h1,_,rfl⟩|⟨x,cap,h1,h2,rfl,h4,h5,h6⟩
 · exact .inl ⟨rfl,List.length_eq_zero_iff.1 h1⟩
 · obtain ⟨c,el,fz,g1,g2,g3,g4⟩:=h6
   rw[ZAc] at g4
   exact .inr ⟨x.1,x.2.1,cap,c,el,fz,rfl,g1,g4⟩
def EntRow (H:Heap) (e:Ent):Prop:=ZAk H 1 e.k e.kb.length (zAl e.kb)∧∃ vb:List UInt8,vb.length=1∧ZAk H 1 e.v vb.length (zAl vb)
theorem EntRow.mono {H H':Heap} {e:Ent} (h:EntRow H e) (hH:∀ b o,H b=some o→H' b=some o):EntRow H' e:=by
 obtain ⟨h1,vb,h2,h3⟩:=h
 exact ⟨h1.mono hH,vb,h2,h3.mono hH⟩
theorem EntRow.ok {H:Heap} {e:Ent} (h:EntRow H e):EntOk H e:=by
 obtain ⟨h1,vb,h2,h3⟩:=h
 exact ⟨bytes_of_row h1,vb,bytes_of_row h3⟩
theorem ko_draw (T:Tok) (hst:T.strong=true):@DrawOk T TZ KO:=@draw_ok T TZ zBt KO (ko_ok T hst)
theorem fn98_name:fn98.name≠ "runtime.NumGoroutine":=by
 have h:(fn98.name == "runtime.NumGoroutine")=false:=by kernel_rfl
 intro e
 rw[e] at h; simp at h
theorem pre98:∀ i,i<9→Pre98[i]? = O98[i]?:=fun i hi=>by
 unfold Pre98
 rw[List.getElem?_toArray,List.getElem?_take,if_pos hi,Array.getElem?_toList]
theorem leftX_of {T:Tok} {P:Program} {φ φ':Phi} {m m':Mem} {w w':World} {p:Nat} (hst:@Step T P φ m w φ' m' w') (h:∀ q b o s,q<m.next→(m.get q).wr=true→φ q=some (b,o,s)→b=p):zBk p w w':=
 ⟨fun b hb hne=>@Step.frame T P φ m w φ' m' w' hst b hb fun q o s hq hw hφ=>hne (h q b o s hq hw hφ),@Step.size T P φ m w φ' m' w' hst,@Step.os T P φ m w φ' m' w' hst,@Step.out T P φ m w φ' m' w' hst,@Step.tape T P φ m w φ' m' w' hst⟩
theorem upd_inX {H:Heap} {w w':World} {p:Nat} (hH:In H w) (hp:H p=none) (hl:zBk p w w'):In (upd H w w') w':=fun b o h=>by
 unfold upd at h
 split at h
 · rename_i hb
   rw[hl.1 b hb (fun e=>by rw[e,hp] at h; cases h)]; exact hH b o h
 · exact h
def put1Vals (root:Value) (kb vb:List UInt8) (j:Nat):Value:=if j=0 then root else if j<40 then ((zAl kb)[j-1]?).getD nilS else ((zAl vb)[j-40]?).getD nilS
theorem getD_cell {bs:List UInt8} {j:Nat}:(((zAl bs)[j]?).getD nilS).oneCell'=true:=by
 cases hj:(zAl bs)[j]? with
 |none=>rfl
 |some u=>exact bytesV_cell (List.mem_of_getElem? hj)
theorem put1Vals_cell {root:Value} (h:root.oneCell'=true) (kb vb:List UInt8) (j:Nat):(put1Vals root kb vb j).oneCell'=true:=by
 unfold put1Vals
 split
 · exact h
 · split<;>exact getD_cell
theorem tz_put1 {w:World} (hgs:2≤w.heap.size) {p n:Nat} {root:Value} (hS:ZAx w p [root,.int .i64 (n:Int)]) {k v:Value} {kb vb:List UInt8} (hk:ZAk (zAk w) 1 k kb.length (zAl kb)) (hv:ZAk (zAk w) 1 v vb.length (zAl vb)) (hvl:vb.length=1)
 (hnk:kb.length=17∨kb.length=18∨kb.length=26) {Q:Exit→Act→World→Prop}
 (hn:∀ a2 w2 k' v',zBc 46 a2→ZAb w w2→a2.tmps.getD 0 undef=.pointer (some ⟨p,0,none⟩)→a2.tmps.getD 13 undef=root→a2.tmps.getD 18 undef=.agg #[k',v']→ZAk (upd noH w w2) 1 k' kb.length (zAl kb)→ZAk (upd noH w w2) 1 v' vb.length (zAl vb)→
  wpAny TZ .any O98 (Exit.then (X98.wp TZ Q) Q) 6 (L98 0) a2 w2) :
 B98.wp TZ Q { tmps:=#[.pointer (some ⟨p,0,none⟩),k,v]++Array.replicate (fn98.ntmps-(#[.pointer (some ⟨p,0,none⟩),k,v]:Array Value).size) undef,defers:=[] } w:=by
 have hrun:put1Run kb.length=true:=by
  rcases hnk with h|h|h<;>rw[h]
  · exact put1_17
  · exact put1_18
  · exact put1_26
 have hk0:0<kb.length:=by omega
 have hk39:kb.length<39:=by omega
 have hroot:root.oneCell'=true:=by
  obtain ⟨_,_,_,_,_,h,_⟩:=hS
  exact h _ (by simp)
 let T:Tok:=tokB noH (put1Vals root kb vb) (put1Vals_cell hroot kb vb)
 have hT0:T.val 0=root:=rfl
 have hkv:∀ j u,(zAl kb)[j]? = some u→T.val (1+j)=u:=fun j u hj=>by
  have hlt:=zAf hj
  rw[ZAc] at hlt
  show put1Vals root kb vb (1+j)=u
  unfold put1Vals
  rw[if_neg (by omega),if_pos (by omega),show 1+j-1=j by omega,hj]; rfl
 have hvv:∀ j u,(zAl vb)[j]? = some u→T.val (40+j)=u:=fun j u hj=>by
  show put1Vals root kb vb (40+j)=u
  unfold put1Vals
  rw[if_neg (by omega),if_neg (by omega),show 40+j-40=j by omega,hj]; rfl
 have hLk:∀ φ,@zAa T φ (oqs kb.length 1) (zAl kb):=fun φ=>by
  have:=ZCx (T:=T) (φ:=φ) (zAl kb) 1 hkv
  rwa [ZAc] at this
 have hLv:∀ φ,@zAa T φ (oqs 1 40) (zAl vb):=fun φ=>by
  have:=ZCx (T:=T) (φ:=φ) (zAl vb) 40 hvv
  rwa [ZAc,hvl] at this
 obtain ⟨xk,hxk,vk⟩:=row_rel (T:=T) hk0 hk
 obtain ⟨xv,hxv,vv⟩:=row_rel (T:=T) (by omega) hv
 have hIn:In (zAk w) w:=fun b o h=>h
 let φ0:Phi:=ZAh 2 [(p,0,2),xk,xv]
 have f3:φ0 3=some (p,0,2):=rfl
 have f4:φ0 4=some xk:=rfl
 have f5:φ0 5=some xv:=rfl
 have hro1:∀ b,b∈put1L kb.length→b.wr=false:=fun b hb=>by
  simp only[put1L,List.mem_cons,List.not_mem_nil,or_false] at hb
  rcases hb with rfl|rfl|rfl<;>rfl
 have hr:@Rel T TZ φ0 (zAe 2 0 .none (put1L kb.length)) w:=by
  refine mkRel ZAa (by decide) hgs rfl (by show 2+1+3≤65536; decide) hro1 (fun z hz=>?_) (fun i b hb=>?_) (fun b o h=>by cases h)
  · simp only[List.mem_cons,List.not_mem_nil,or_false] at hz
    rcases hz with rfl|rfl|rfl
    · exact hS.lt
    · exact hxk.lt hIn
    · exact hxv.lt hIn
  · match i,hb with
    |0,hb=>
     simp only[put1L,List.getElem?_cons_zero,Option.some.injEq] at hb
     subst hb
     exact hS.brel f3 (@zAa.cons T _ _ _ _ _ (by rw[← hT0]; exact @VRel.opq T _ 0) (@zAa.cons T _ _ _ _ _ (@VRel.any T _ _ rfl) (@zAa.nil T _))) (fun v hv=>by
      simp only[List.mem_cons,List.not_mem_nil,or_false] at hv
      rcases hv with rfl|rfl<;>rfl)
    |1,hb=>
     simp only[put1L,List.getElem?_cons_succ,List.getElem?_cons_zero,Option.some.injEq] at hb
     subst hb
     exact zBy hIn hxk f4 (hLk _) fun v hv=>zBp (zCf hv)
    |2,hb=>
     simp only[put1L,List.getElem?_cons_succ,List.getElem?_cons_zero,Option.some.injEq] at hb
     subst hb
     exact zBy hIn hxv f5 (hLv _) fun v hv=>zBp (zCf hv)
    |i+3,hb=>simp[put1L] at hb
 have hro:=zCc (G:=2) (g0:=0) (b0:=.none) (by decide) (by show 2+1+3≤65536; decide) rfl hro1
 have hargs:@zAa T φ0 [.ptr 3 0,.slice 4 0 kb.length kb.length false 1,.slice 5 0 1 1 false 1] (#[.pointer (some ⟨p,0,none⟩),k,v]:Array Value).toList:=by
  refine @zAa.cons T _ _ _ _ _ (@VRel.ptr T φ0 3 0 p 0 2 f3) (@zAa.cons T _ _ _ _ _ (vk _ _ f4) (@zAa.cons T _ _ _ _ _ ?_ (@zAa.nil T _)))
  have:=vv _ _ f5
  rwa [hvl] at this
 have ha0:zBc 46 { tmps:=#[.pointer (some ⟨p,0,none⟩),k,v]++Array.replicate (fn98.ntmps-(#[.pointer (some ⟨p,0,none⟩),k,v]:Array Value).size) undef,defers:=[] }:=⟨by simp[fn98_nt],rfl⟩
 have hreg:∀ (t:Nat) (x:AVal),([.ptr 3 0,.slice 4 0 kb.length kb.length false 1,.slice 5 0 1 1 false 1]:List AVal)[t]? = some x→@VRel T φ0 x (({ tmps:=#[.pointer (some ⟨p,0,none⟩),k,v]++Array.replicate (fn98.ntmps-(#[.pointer (some ⟨p,0,none⟩),k,v]:Array Value).size) undef,defers:=[] }:Act).tmps.getD t undef):=
  fun t x ht=>args_reg hargs ht
 generalize ({ tmps:=#[.pointer (some ⟨p,0,none⟩),k,v]++Array.replicate (fn98.ntmps-(#[.pointer (some ⟨p,0,none⟩),k,v]:Array Value).size) undef,defers:=[] }:Act)=a0 at ha0 hreg
 unfold put1Run at hrun
 split at hrun
 · rename_i vs1 m1 hq1
   split at hrun
   · rename_i x0 x13 xa xb mf hq2
     simp only[Bool.and_eq_true] at hrun
     obtain ⟨⟨e0,e13⟩,hfr,⟨s1,s2⟩,habs⟩:=hrun
     have e0':=@ZAf tok0 2 _ _ e0
     have e13':=@ZAf tok0 2 _ _ e13
     subst e0'
     subst e13'
     rw[b98_is]
     refine @ZCh TZ T KO (ko_ok T rfl) (ko_draw T rfl) 46 [R98] gr98 _ _ _ _ _ _ hq1 φ0 w a0 _ _ hr ha0 (by decide) (fun q hq=>?_) ?_ (fun i h=>by cases h) (fun h=>by cases h)
     · simp only[List.mem_cons,List.not_mem_nil,or_false] at hq
       rcases hq with rfl|rfl|rfl
       · exact ⟨(by decide:0<4096),hreg 0 _ rfl⟩
       · exact ⟨(by decide:1<4096),hreg 1 _ rfl⟩
       · exact ⟨(by decide:2<4096),hreg 2 _ rfl⟩
     intro _ φ1 a1 w1 hst1 ha1 hv1
     refine wp_seq ?_
     refine region_cut zBt (ko_ok T rfl) c98 pre98 g98 hq2 (@Step.rel T TZ _ _ _ _ _ _ hst1) ha1 (by decide) (@ZAv T φ1 a1 _ _ (by decide) hv1) fun φ2 a2 w2 hst2 ha2 hv2=>?_
     have hst:=@Step.trans T TZ _ _ _ _ _ _ _ _ _ hst1 hst2
     have hleft:=ZAb.of hst hro
     have hsz:O98.size-9=6:=by rw[z98]
     show wpAny TZ .any O98 _ (O98.size-9) (L98 0) a2 w2
     rw[hsz]
     cases hv2 with
     |cons v0 hv2=>
     cases hv2 with
     |cons v13 hv2=>
     cases hv2 with
     |cons v18 hv2=>
     obtain ⟨r1,r2⟩:=idRel (T:=T) rfl ZAa (@Step.rel T TZ _ _ _ _ _ _ hst) habs
     have ht:=tells_new (by decide) hst hro hfr habs
     have g0:a2.tmps.getD 0 undef=.pointer (some ⟨p,0,none⟩):=by
      have v0':@VRel T φ2 (.ptr 3 0) (a2.tmps.getD 0 undef):=v0
      generalize a2.tmps.getD 0 undef=c at v0'
      cases v0' with
      |ptr _ _ cb co sz hφ=>
       rw[@Step.ext T TZ _ _ _ _ _ _ hst 3 _ f3] at hφ
       cases hφ; rfl
     have g13:a2.tmps.getD 13 undef=root:=by
      have v13':@VRel T φ2 (.opq 0) (a2.tmps.getD 13 undef):=v13
      generalize a2.tmps.getD 13 undef=c at v13'
      cases v13'; exact hT0
     have g18:∃ k' v',a2.tmps.getD 18 undef=.agg #[k',v']∧@VRel T φ2 xa k'∧@VRel T φ2 xb v':=by
      have v18':@VRel T φ2 (.agg [xa,xb]) (a2.tmps.getD 18 undef):=v18
      generalize a2.tmps.getD 18 undef=c at v18'
      cases v18' with
      |agg _ cs hcs hcc=>
       generalize hcl:cs.toList=L at hcs
       cases hcs with
       | @cons _ k' _ _ q1 q2=>
       cases q2 with
       | @cons _ v' _ _ q3 q4=>
       cases q4
       exact ⟨k',v',by rw[show cs=#[k',v'] by rw[← Array.toList_inj]; exact hcl],q1,q3⟩
     obtain ⟨k',v',g18,q1,q2⟩:=g18
     have hlen2:2+1+([.cells true (oqs kb.length 1),.cells true (oqs 1 40)]:List Blk).length≤65536:=by show 2+1+2≤65536; decide
     obtain ⟨b1,b2⟩:=ZAu (G:=2) (by decide) hlen2 (i:=0) rfl
     obtain ⟨c1,c2⟩:=ZAu (G:=2) (by decide) hlen2 (i:=1) rfl
     refine hn a2 w2 k' v' ha2 hleft g0 g13 g18 ?_ ?_
     · exact zCl ht r1 hk0 b1 b2 (by rw[ZAc]; omega) (fun us hus=>opq_unique (fun v hv=>zCf hv) hus (hLk φ2)) (r2 _ _ (absN_up s1) _ q1)
     · have:=zCl ht r1 (by decide:0<1) c1 c2 (vs:=zAl vb) (by rw[ZAc,hvl]) (fun us hus=>opq_unique (fun v hv=>zCf hv) hus (hLv φ2)) (r2 _ _ (absN_up s2) _ q2)
       rw[hvl]; exact this
   · cases hrun
 · cases hrun
end Go.AM
namespace Go.AM
open Go.Proofs
def put2Vals (xs:List Img) (j:Nat):Value:=((xs.map ptrV)[j-1]?).getD nilS
theorem put2Vals_cell (xs:List Img) (j:Nat):(put2Vals xs j).oneCell'=true:=by
 unfold put2Vals
 rw[List.getElem?_map]
 cases xs[j-1]?<;>rfl
theorem put2L_wr {two:Bool} {n q:Nat} (hq:q<(zAe 2 0 .none (put2L two n)).next) (hw:((zAe 2 0 .none (put2L two n)).get q).wr=true):q=3:=by
 have hn:(zAe 2 0 .none (put2L two n)).next=5:=ZAt (put2L two n) _
 rw[hn] at hq
 rw[zAu (by decide) (by show 2+1+2≤65536; decide) (by omega)] at hw
 match q,hq with
 |0,_=>cases hw
 |1,_=>cases hw
 |2,_=>cases hw
 |3,_=>rfl
 |4,_=>cases hw
def Onl (H:Heap) (w:World) (H':Heap):Prop:=(∀ b o,H b=some o→H' b=some o)∧∀ b o,b<w.heap.size→H' b=some o→H b=some o
theorem Onl.refl {H:Heap} {w:World}:Onl H w H:=⟨fun _ _ h=>h,fun _ _ _ h=>h⟩
theorem Onl.trans {H H' H'':Heap} {w w':World} (h:Onl H w H') (h':Onl H' w' H'') (hs:w.heap.size≤w'.heap.size):Onl H w H'':=
 ⟨fun b o hb=>h'.1 b o (h.1 b o hb),fun b o hl hb=>h.2 b o hl (h'.2 b o (Nat.lt_of_lt_of_le hl hs) hb)⟩
theorem upd_onl {H:Heap} {w w':World} (hH:In H w):Onl H w (upd H w w'):=⟨upd_mono hH,fun b o hl hb=>by
 unfold upd at hb
 rw[if_pos hl] at hb; exact hb⟩
theorem tz_put2 {w:World} (hgs:2≤w.heap.size) {H:Heap} (hH:In H w) {p n:Nat} (hp:H p=none) {root:Value} (hS:ZAx w p [root,.int .i64 (n:Int)]) (hn:n≤50) {sl:Value} {xs:List Img} (hrow:ZAk H 1 sl xs.length (xs.map ptrV)) {sg:Sigs}
 (hcase:(∃ x,xs=[x]∧TreeIs H (ptrV x) sg)∨∃ K1 K2:Kid,xs=[K1.x,K2.x]∧sg=[sig K1,sig K2]∧KidAt H K1∧KidAt H K2) {a:Act} (ha:zBc 46 a) (g0:a.tmps.getD 0 undef=.pointer (some ⟨p,0,none⟩)) (g7:a.tmps.getD 7 undef=sl) (g8:a.tmps.getD 8 undef=.bool true)
 {Q:Exit→Act→World→Prop} (hQ:∀ a' w',a'.defers=[]→zBk p w w'→(∃ root' H',In H' w'∧H' p=none∧Onl H w H'∧ZAx w' p [root',.int .i64 ((n+1:Nat):Int)]∧TreeIs H' root' sg)→Q .ret a' w'):X98.wp TZ Q a w:=by
 obtain ⟨two,hlen,hall⟩:∃ two:Bool,xs.length=kN two∧put2Run two n=true:=by
  have h:=List.all_eq_true.1 put2_all n (List.mem_range.2 (by omega))
  rw[Bool.and_eq_true] at h
  rcases hcase with ⟨x,rfl,_⟩|⟨K1,K2,rfl,_⟩
  · exact ⟨false,rfl,h.1⟩
  · exact ⟨true,rfl,h.2⟩
 have hk0:0<xs.length:=by rw[hlen]; cases two<;>decide
 have hk2:xs.length≤2:=by rw[hlen]; cases two<;>decide
 have hroot:root.oneCell'=true:=by
  obtain ⟨_,_,_,_,_,h,_⟩:=hS
  exact h _ (by simp)
 let T:Tok:=tokB noH (put2Vals xs) (put2Vals_cell xs)
 have hval:∀ j u,(xs.map ptrV)[j]? = some u→T.val (1+j)=u:=fun j u hj=>by
  show put2Vals xs (1+j)=u
  unfold put2Vals
  rw[show 1+j-1=j by omega,hj]; rfl
 have hL:∀ φ,@zAa T φ (oqs (kN two) 1) (xs.map ptrV):=fun φ=>by
  have:=ZCx (T:=T) (φ:=φ) (xs.map ptrV) 1 hval
  rwa [List.length_map,hlen] at this
 obtain ⟨xr,hxr,vr⟩:=row_rel (T:=T) hk0 hrow
 rw[hlen] at vr
 have hne:xr.1≠p:=fun e=>by
  obtain ⟨c,el,fz,h1,_⟩:=hxr
  rw[e,hp] at h1; cases h1
 let φ0:Phi:=ZAh 2 [(p,0,2),xr]
 have f3:φ0 3=some (p,0,2):=rfl
 have f4:φ0 4=some xr:=rfl
 have hr:@Rel T TZ φ0 (zAe 2 0 .none (put2L two n)) w:=by
  refine mkRelW ZAa (by decide) hgs rfl (by show 2+1+2≤65536; decide) (fun i b x hb hw hx=>⟨rfl,fun j y hy hji=>?_⟩) (fun z hz=>?_) (fun i b hb=>?_) (fun b o h=>by cases h)
  · match i,hb with
    |0,hb=>
     cases hx
     match j,hy with
     |0,_=>exact absurd rfl hji
     |1,hy=>cases hy; exact hne
    |1,hb=>cases hb; cases hw
    |i+2,hb=>simp[put2L] at hb
  · simp only[List.mem_cons,List.not_mem_nil,or_false] at hz
    rcases hz with rfl|rfl
    · exact hS.lt
    · exact hxr.lt hH
  · match i,hb with
    |0,hb=>
     simp only[put2L,List.getElem?_cons_zero,Option.some.injEq] at hb
     subst hb
     exact hS.brel f3 (@zAa.cons T _ _ _ _ _ (@VRel.any T _ _ hroot) (@zAa.cons T _ _ _ _ _ (@VRel.int T _ .i64 n) (@zAa.nil T _))) (fun v hv=>by
      simp only[List.mem_cons,List.not_mem_nil,or_false] at hv
      rcases hv with rfl|rfl<;>rfl)
    |1,hb=>
     simp only[put2L,List.getElem?_cons_succ,List.getElem?_cons_zero,Option.some.injEq] at hb
     subst hb
     exact zBy hH hxr f4 (hL _) fun v hv=>zBp (zCf hv)
    |i+2,hb=>simp[put2L] at hb
 have hwr:∀ q b o s,q<(zAe 2 0 .none (put2L two n)).next→((zAe 2 0 .none (put2L two n)).get q).wr=true→φ0 q=some (b,o,s)→b=p:=fun q b o s hq hw hφ=>by
  have:=put2L_wr hq hw
  subst this
  rw[f3] at hφ; cases hφ; rfl
 unfold put2Run at hall
 split at hall
 · rename_i y m hq
   refine @one_ok TZ T KO (ko_ok T rfl) (ko_draw T rfl) 46 X98 gx98 _ _ _ _ _ _ hq φ0 w a Q hr ha (by decide) (fun q hq=>?_) (fun h=>by cases h) (fun i h=>by cases h) ?_
   · simp only[List.mem_cons,List.not_mem_nil,or_false] at hq
     rcases hq with rfl|rfl|rfl
     · refine ⟨(by decide:0<4096),?_⟩
       show @VRel T φ0 _ (a.tmps.getD 0 undef)
       rw[g0]; exact @VRel.ptr T φ0 3 0 p 0 2 f3
     · refine ⟨(by decide:7<4096),?_⟩
       show @VRel T φ0 _ (a.tmps.getD 7 undef)
       rw[g7]; exact vr _ _ f4
     · refine ⟨(by decide:8<4096),?_⟩
       show @VRel T φ0 _ (a.tmps.getD 8 undef)
       rw[g8]; exact @VRel.bool T φ0 true
   intro _ φ1 a1 w1 hst ha1 hv1
   have hl:=leftX_of hst hwr
   have hext:∀ q x,φ0 q=some x→φ1 q=some x:=@Step.ext T TZ _ _ _ _ _ _ hst
   refine hQ a1 w1 ha1.defers hl ?_
   cases two with
   |false=>
    have habs:zAp (zAx 2 [3]) 0 .none [.cells false [.opq 1,.int .i64 (.ofNat (Nat.succ n))]] m=true:=hall
    obtain ⟨r1,_⟩:=idRel (T:=T) rfl ZAa (@Step.rel T TZ _ _ _ _ _ _ hst) habs
    obtain ⟨b1,b2⟩:=ZAu (G:=2) (by decide) (l:=[.cells false [.opq 1,.int .i64 (.ofNat (Nat.succ n))]]) (by show 2+1+1≤65536; decide) (i:=0) rfl
    obtain ⟨vs,hS1,hvs⟩:=ZAx.of (T:=T) rfl (p:=p) (n:=2) r1 b1 b2 (hext 3 _ f3) rfl
    cases hvs with
    | @cons _ rv _ _ q1 q2=>
    cases q2 with
    | @cons _ nv _ _ q3 q4=>
    cases q4
    cases q1
    cases q3
    rcases hcase with ⟨x,rfl,htree⟩|⟨K1,K2,rfl,_⟩
    · refine ⟨_,H,fun b o h=>?_,hp,Onl.refl,hS1,?_⟩
      · rw[hl.1 b (@ZAq tok0 w b _ (hH b o h)) (fun e=>by rw[e,hp] at h; cases h)]; exact hH b o h
      · have e:T.val 1=ptrV x:=hval 0 _ rfl
        rw[e]; exact htree
    · cases hlen
   |true=>
    rcases hcase with ⟨x,rfl,htree⟩|⟨K1,K2,rfl,hsg,hk1,hk2⟩
    · cases hlen
    · unfold put2E at hall
      simp only at hall
      split at hall
      · rename_i qn _ _ _
        rw[Bool.and_eq_true] at hall
        obtain ⟨hfr,habs⟩:=hall
        obtain ⟨r1,_⟩:=idRel (T:=T) rfl ZAa (@Step.rel T TZ _ _ _ _ _ _ hst) habs
        have a3:zAj (zAx 2 [3,qn,4]) φ1 3=some (p,0,2):=hext 3 _ f3
        have a4:zAj (zAx 2 [3,qn,4]) φ1 4=φ1 qn:=rfl
        have a5:zAj (zAx 2 [3,qn,4]) φ1 5=some xr:=hext 4 _ f4
        have hlen3:2+1+([.cells false [.ptr 4 0,.int .i64 (.ofNat (Nat.succ n))],.cells true [.nilslice,.nilslice,.slice 5 0 2 2 false 1],.cells true (oqs 2 1)]:List Blk).length≤65536:=by show 2+1+3≤65536; decide
        obtain ⟨b1,b2⟩:=ZAu (G:=2) (by decide) hlen3 (i:=0) rfl
        obtain ⟨c1,c2⟩:=ZAu (G:=2) (by decide) hlen3 (i:=1) rfl
        obtain ⟨vs,hS1,hvs⟩:=ZAx.of (T:=T) rfl (p:=p) (n:=2) r1 b1 b2 a3 rfl
        have hB:=@Rel.blk T TZ _ _ _ r1 4 c1
        have c2':(zAe 2 0 .none [.cells false [.ptr 4 0,.int .i64 (.ofNat (Nat.succ n))],.cells true [.nilslice,.nilslice,.slice 5 0 2 2 false 1],.cells true (oqs 2 1)]).get 4=.cells true [.nilslice,.nilslice,.slice 5 0 2 2 false 1]:=c2
        have b2':(zAe 2 0 .none [.cells false [.ptr 4 0,.int .i64 (.ofNat (Nat.succ n))],.cells true [.nilslice,.nilslice,.slice 5 0 2 2 false 1],.cells true (oqs 2 1)]).get 3=.cells false [.ptr 4 0,.int .i64 (.ofNat (Nat.succ n))]:=b2
        rw[c2'] at hB
        obtain ⟨cb,co,c,el,fz,h1,h2,h3,h4,_⟩:=hB
        have h1':zAj (zAx 2 [3,qn,4]) φ1 4=some (cb,co,c.size):=h1
        have hlive:=absMem_live (@Rel.bound T TZ _ _ _ (@Step.rel T TZ _ _ _ _ _ _ hst)) habs rfl (p:=4) (by show 4<6; decide) (by show ((zAe 2 0 .none _).get 4).live=true; rw[c2']; rfl)
        have hlive':qn<m.next∧(m.get qn).live=true:=hlive
        have h5q:5≤qn:=freshNs_ok hfr qn (by simp)
        have hnew:w.heap.size≤cb:=by
         rcases Nat.lt_or_ge cb w.heap.size with hlt|hge
         · exfalso
           obtain ⟨q,o',s',g1,g2,g3⟩:=@Step.img T TZ _ _ _ _ _ _ hst qn cb co c.size h5q hlive'.1 hlive'.2 (by rw[← a4]; exact h1') hlt
           have e:=hwr q cb o' s' g1 g2 g3
           subst e
           exact @Rel.inj T TZ _ _ _ r1 3 4 cb 0 2 co c.size b1 c1 (by decide) (by rw[b2']; rfl) (by rw[c2']; rfl) a3 h1'
         · exact hge
        generalize hvl:(c.toList.drop co).take ([.nilslice,.nilslice,.slice 5 0 2 2 false 1]:List AVal).length=ws at h4
        cases h4 with
        | @cons _ w1v _ _ z1 z2=>
        cases z2 with
        | @cons _ w2v _ _ z3 z4=>
        cases z4 with
        | @cons _ chl _ _ z5 z6=>
        cases z6
        cases z1
        cases z3
        cases hvs with
        | @cons _ rv _ _ q1 q2=>
        cases q2 with
        | @cons _ nv _ _ q3 q4=>
        cases q4
        cases q3
        cases q1 with
        |ptr _ _ cb2 co2 sz2 hφ2=>
         rw[h1'] at hφ2
         cases hφ2
         cases z5 with
         |slice _ _ _ _ _ _ cb3 co3 sz3 o3 cap3 p1 p2 p3 p4 p5 p6=>
          rw[a5] at p1
          cases p1
          have ho3:=p5 (by decide)
          have hmono:∀ b o,H b=some o→upd H w w1 b=some o:=upd_mono hH
          refine ⟨ptrV (cb,co,c.size),upd H w w1,upd_inX hH hp hl,upd_none hS.lt hp,upd_onl hH,hS1,?_⟩
          refine .many (cb,co,c.size) nilS [K1,K2] rfl hsg rfl ⟨_,⟨c,el,fz,?_,rfl,h3,hvl⟩,?_,fun K hK=>?_⟩ (by show 1<2; decide)
          · unfold upd
            rw[if_neg (by show ¬ cb<_; omega)]; exact h2
          · exact .inr ⟨(cb3,co3,sz3),cap3,by show 0<2; decide,rfl,by rw[ho3]; rfl,p3,by show co3+cap3*1≤sz3; omega,hxr.mono hmono⟩
          · simp only[List.mem_cons,List.not_mem_nil,or_false] at hK
            rcases hK with rfl|rfl
            · exact hk1.mono hmono
            · exact hk2.mono hmono
      · cases hall
 · cases hall
end Go.AM
namespace Go.AM
open Go.Proofs
theorem tz_put {KB':Nat→Nat→Nat→Nat→Nat→KH} {N:Nat} (R:PRuns TZ 2 159 KB' N) (hN90:N≤700) {w:World} (hgs:2≤w.heap.size) {H:Heap} (hH:In H w) {p n:Nat} (hp:H p=none) {root:Value} (hS:ZAx w p [root,.int .i64 (n:Int)]) (hn:n≤50)
 {sg:Sigs} (h:TreeIs H root sg) (hI:TInv sg) (hN:(zAo sg).length≤N) {k v:Value} {kb vb:List UInt8} (hk:ZAk (zAk w) 1 k kb.length (zAl kb)) (hv:ZAk (zAk w) 1 v vb.length (zAl vb)) (hvl:vb.length=1) (hnk:kb.length=17∨kb.length=18∨kb.length=26)
 (hnew:∀ x,x∈zAo sg→x.kb≠kb) :
 Ends TZ 98 #[.pointer (some ⟨p,0,none⟩),k,v] w fun _ w'=>zBk p w w'∧∃ root' sg' H' e,In H' w'∧H' p=none∧Onl H w H'∧ZAx w' p [root',.int .i64 ((n+1:Nat):Int)]∧TreeIs H' root' sg'∧TInv sg'∧
  e.kb=kb∧EntRow H' e∧(∀ x,x∈zAo sg' ↔ x=e∨x∈zAo sg)∧(zAo sg').length=(zAo sg).length+1∧ZAk H' 1 e.v vb.length (zAl vb):=by
 right
 refine ⟨ZBx fn98_is fn98_name fn98_body,?_⟩
 refine calls_of_wp fn98_is fn98_body ?_
 refine tz_put1 hgs hS hk hv hvl hnk fun a2 w2 k' v' ha2 hl2 g0 g13 g18 hk' hv'=>?_
 have hgs2:2≤w2.heap.size:=Nat.le_trans hgs hl2.2.1
 have hH1:=upd_in hH hl2
 have hrow1:EntRow (upd H w w2) ⟨kb,k',v'⟩:=⟨hk'.mono upd_no,vb,hvl,hv'.mono upd_no⟩
 have hm1:∀ b o,H b=some o→upd H w w2 b=some o:=upd_mono hH
 have hput:=tree_put R hN90 hgs2 hH1 (h.mono hm1) hI hN (e:=⟨kb,k',v'⟩) hrow1.ok (fun e=>by have e':kb=[]:=e; rw[e'] at hnk; simp at hnk) hnew
 refine any_call o98_9 r98_9 (R':=_) (by
  show Ends TZ 159 #[a2.tmps.getD 13 undef,a2.tmps.getD 18 undef] w2 _
  rw[g13,g18]; exact hput) fun c w3 hR=>?_
 obtain ⟨hl3,sl,xs,sg',rfl,hrow,hI',hmem,hlen,hcase⟩:=hR
 have ha3:=zCu ha2 (some 19) (.tuple #[sl,.bool true])
 have e3:(a2.put (some 19) (.tuple #[sl,.bool true])).tmps.getD 19 undef=.tuple #[sl,.bool true]:=zBm ha2 (by decide) _
 have e30:=ZAi ha2 (by decide:19<46) (.tuple #[sl,.bool true]) (t:=0) (by decide)
 rw[g0] at e30
 generalize a2.put (some 19) (.tuple #[sl,.bool true])=a3 at ha3 e3 e30
 refine any_val (L:=L98 1) o98_10 r98_10 (fun o ho=>run_mv ho) ?_
 rw[e3]
 have ha4:=zCu ha3 (some 9) (.tuple #[sl,.bool true])
 have e4:(a3.put (some 9) (.tuple #[sl,.bool true])).tmps.getD 9 undef=.tuple #[sl,.bool true]:=zBm ha3 (by decide) _
 have e40:=ZAi ha3 (by decide:9<46) (.tuple #[sl,.bool true]) (t:=0) (by decide)
 rw[e30] at e40
 generalize a3.put (some 9) (.tuple #[sl,.bool true])=a4 at ha4 e4 e40
 refine any_first (L:=L98 2) o98_11 s98 f98_11 r98_11 (fun c a w v h=>h) (v:=sl) (fun o w ho=>run_ex ho e4 rfl) ?_
 have ha5:=zCu ha4 (some 20) sl
 have e5:(a4.put (some 20) sl).tmps.getD 20 undef=sl:=zBm ha4 (by decide) _
 have e59:=ZAi ha4 (by decide:20<46) sl (t:=9) (by decide)
 have e50:=ZAi ha4 (by decide:20<46) sl (t:=0) (by decide)
 rw[e40] at e50
 rw[e4] at e59
 generalize a4.put (some 20) sl=a5 at ha5 e5 e59 e50
 refine any_first (L:=L98 3) o98_12 s98 f98_12 r98_12 (fun c a w v h=>h) (v:=.bool true) (fun o w ho=>run_ex ho e59 rfl) ?_
 have ha6:=zCu ha5 (some 21) (.bool true)
 have e6:(a5.put (some 21) (.bool true)).tmps.getD 21 undef=.bool true:=zBm ha5 (by decide) _
 have e620:=ZAi ha5 (by decide:21<46) (.bool true) (t:=20) (by decide)
 have e60:=ZAi ha5 (by decide:21<46) (.bool true) (t:=0) (by decide)
 rw[e5] at e620
 rw[e50] at e60
 generalize a5.put (some 21) (.bool true)=a6 at ha6 e6 e620 e60
 refine any_val (L:=L98 4) o98_13 r98_13 (fun o ho=>run_as ho) ?_
 rw[e620]
 have ha7:=zCu ha6 (some 7) sl
 have e7:(a6.put (some 7) sl).tmps.getD 7 undef=sl:=zBm ha6 (by decide) _
 have e721:=ZAi ha6 (by decide:7<46) sl (t:=21) (by decide)
 have e70:=ZAi ha6 (by decide:7<46) sl (t:=0) (by decide)
 rw[e6] at e721
 rw[e60] at e70
 generalize a6.put (some 7) sl=a7 at ha7 e7 e721 e70
 refine any_val (L:=L98 5) o98_14 r98_14 (fun o ho=>run_as ho) ?_
 rw[e721]
 have ha8:=zCu ha7 (some 8) (.bool true)
 have e8:(a7.put (some 8) (.bool true)).tmps.getD 8 undef=.bool true:=zBm ha7 (by decide) _
 have e87:=ZAi ha7 (by decide:8<46) (.bool true) (t:=7) (by decide)
 have e80:=ZAi ha7 (by decide:8<46) (.bool true) (t:=0) (by decide)
 rw[e7] at e87
 rw[e70] at e80
 generalize a7.put (some 8) (.bool true)=a8 at ha8 e8 e87 e80
 refine wpAny_done (listed:=L98 6) r98_15 ?_ 0
 show X98.wp TZ _ a8 w3
 have hgs3:2≤w3.heap.size:=Nat.le_trans hgs2 hl3.2.1
 have hp1:upd H w w2 p=none:=upd_none hS.lt hp
 have hp2:upd (upd H w w2) w2 w3 p=none:=upd_none (Nat.lt_of_lt_of_le hS.lt hl2.2.1) hp1
 have hS3:ZAx w3 p [root,.int .i64 (n:Int)]:=by
  obtain ⟨c,el,fz,h1,h2⟩:=hS
  refine ⟨c,el,fz,?_,h2⟩
  have hlt:=@ZAq tok0 w p _ h1
  rw[hl3.1 p (Nat.lt_of_lt_of_le hlt hl2.2.1),hl2.1 p hlt]; exact h1
 refine tz_put2 hgs3 (upd_in hH1 hl3) hp2 hS3 hn hrow hcase ha8 e80 e87 e8 fun a9 w9 hd hl9 ⟨root',H',k1,k2,k3,k4,k5⟩=>?_
 refine ⟨hd,_,results_one fn98_res _ w9,_,rfl,(zBk.of hl2).trans ((zBk.of hl3).trans hl9),root',sg',H',⟨kb,k',v'⟩,k1,k2,((upd_onl hH).trans (upd_onl hH1) hl2.2.1).trans k3 (Nat.le_trans hl2.2.1 hl3.2.1),k4,k5,hI',rfl,?_,hmem,hlen,?_⟩
 · exact (hrow1.mono (upd_mono hH1)).mono k3.1
 · exact ((hv'.mono upd_no).mono (upd_mono hH1)).mono k3.1
end Go.AM
namespace Go.AM
open Go.Proofs
set_option maxRecDepth 100000
theorem clone1:cloneRun KO 82 2 1=true:=by kernel_rfl
theorem clone26:cloneRun KO 82 2 26=true:=by kernel_rfl
end Go.AM
namespace Go.AM
open Go.Proofs
def bytesA (bs:List UInt8):List AVal:=bs.map fun x=>.int .u8 (x.toNat:Int)
def nextX (kc:List AVal) (r:Bool) (args:List AVal) (mem:Mem):R:=
 onL (.fail 190) (fun a rest=>arg2 rest fun s b=>match a,s,b with
  | .opq 0,.slice B 0 n _ _ 1,.bool false=>(mem.get B).onCells fun _ cs=>zAc (.ok (.tuple [.agg (zAc [.opq 4,.opq 5] [.any,.any] r),.bool r]) mem) (.fail 191) (and (and (Nat.beq n (lenL kc)) (Nat.ble n (lenL cs))) (zipB (aeqN 2) kc cs))
  |_,_,_=>.fail 192) args
theorem zip_pre:∀ {kc cs:List AVal},zipB (aeqN 2) kc cs=true→kc.length≤cs.length→cs.take kc.length=kc
 | [],cs,_,_=>by simp
 |a::kc,[],_,hl=>by simp at hl
 |a::kc,b::cs,h,hl=>by
  have h':zAc (zipB (aeqN 2) kc cs) false (aeqN 2 a b)=true:=h
  rw[zAn] at h'
  split at h'
  rotate_left
  · cases h'
  rename_i h1
  have h2:=h'
  have e:=@ZAf tok0 2 _ _ h1
  subst e
  rw[List.length_cons,List.take_succ_cons,zip_pre h2 (by simpa using hl)]
theorem vals_bytes {T:Tok} {φ:Phi}:∀ {bs:List UInt8} {vs:List Value},@zAa T φ (bytesA bs) vs→vs=zAl bs
 | [],_,h=>by cases h; rfl
 |b::bs,vs,h=>by
  have h':@zAa T φ (.int .u8 (b.toNat:Int)::bytesA bs) vs:=h
  cases h' with
  |cons h1 h2=>
   cases h1
   rw[vals_bytes h2]; rfl
theorem ZCn {T:Tok} {φ:Phi}:∀ {l:List AVal} {vs:List Value} (n:Nat),@zAa T φ l vs→@zAa T φ (l.take n) (vs.take n)
 |_,_,0,_=>@zAa.nil T φ
 | [],_,n+1,h=>by cases h; exact @zAa.nil T φ
 |a::l,_,n+1,h=>by
  cases h with
  |cons h1 h2=>exact @zAa.cons T φ _ _ _ _ h1 (ZCn n h2)
theorem rel_two {T:Tok} {φ:Phi} {m:Mem} {w:World} (hr:@Rel T TZ φ m w):2≤w.heap.size:=by
 obtain ⟨sz,h⟩:=@Rel.glob T TZ _ _ _ hr 1 (by rw[ZAa]; decide)
 exact @Rel.heap T TZ _ _ _ hr 1 1 0 sz h (by rw[ZAa]; decide)
def cloneX (kc:List AVal) (args:List AVal) (mem:Mem):R:=
 arg1 args fun a=>match a with
  | .opq 4=>zAc (.ok (.slice mem.next 0 (lenL kc) (lenL kc) false 1) ⟨Nat.succ mem.next,putT mem.next (.cells true kc) mem.t⟩) (.fail 194) (and (Nat.ble 1 (lenL kc)) (Nat.ble (Nat.succ mem.next) 65536))
  | .opq 5=>zAc (.ok (.slice mem.next 0 1 1 false 1) ⟨Nat.succ mem.next,putT mem.next (.cells true [.any]) mem.t⟩) (.fail 194) (and (Nat.ble 1 (lenL kc)) (Nat.ble (Nat.succ mem.next) 65536))
  |_=>.fail 195
theorem cloneNew {T:Tok} {kc:List AVal} {v:Value} {vs:List Value} (hrun:cloneRun KO 82 2 kc.length=true) (h0:0<kc.length) (hrow:ZAk T.hold 1 v kc.length vs) (hc:∀ u,u∈vs→u.oneCell'=true) (hkc:∀ φ,@zAa T φ kc vs) (hkcell:∀ x,x∈kc→x.isCell=true) {φ:Phi} {m:Mem} {w:World} (hr:@Rel T TZ φ m w) (hm:m.next+1≤65536) :
 Ends TZ 82 #[v] w fun cv w'=>∃ φ',@Step T TZ φ m w φ' ⟨m.next+1,putT m.next (.cells true kc) m.t⟩ w'∧@VRel T φ' (.slice m.next 0 kc.length kc.length false 1) cv:=by
 have hheld:∀ b o,T.hold b=some o→w.heap[b]? = some o:=@Rel.held T TZ _ _ _ hr
 refine (clone_ok ZAa (by decide) (by decide) ko_ok hrun h0 (rel_two hr) hheld hrow hc).mono fun cv w' ⟨hl,hrow'⟩=>?_
 rcases hrow' with ⟨e,_⟩|⟨x,cap,h1,h2,rfl,h4,h5,c,el,fz,g1,g2,g3,g4⟩
 · omega
 unfold upd at g1
 split at g1
 · cases g1
 rename_i hge
 have hlt:x.1<w'.heap.size:=@ZAq tok0 w' x.1 _ g1
 have hlen:=@zAa.length T φ _ _ (hkc φ)
 refine ⟨_,@Step.add TZ T φ m w hr w' (.cells true kc) x.1 x.2.1 x.2.2 (by omega) hl.1 hl.2.1 hl.2.2.1 hl.2.2.2.1 hl.2.2.2.2 (by omega) hlt ?_,?_⟩
 · refine ⟨x.1,x.2.1,c,el,fz,(if_pos rfl).trans (by rw[← g2]),g1,by omega,?_,hkcell,fun h=>by cases h⟩
   rw[← hlen,g4]; exact hkc _
 · exact @VRel.slice T _ m.next 0 kc.length kc.length false 1 x.1 x.2.1 x.2.2 x.2.1 cap (by simp) (Nat.le_refl _) h4 (fun h=>by cases h) (fun _=>rfl) (by omega)
theorem cloneX_ok {T:Tok} {kc:List AVal} {vs vs5:List Value} (hrun:0<kc.length→cloneRun KO 82 2 kc.length=true) (hrow:0<kc.length→ZAk T.hold 1 (T.val 4) kc.length vs) (hc:∀ u,u∈vs→u.oneCell'=true) (hkc:∀ φ,@zAa T φ kc vs) (hkcell:∀ x,x∈kc→x.isCell=true)
 (hrow5:0<kc.length→ZAk T.hold 1 (T.val 5) 1 vs5) (hc5:∀ u,u∈vs5→u.oneCell'=true):@ZCr T TZ 82 (cloneX kc):=by
 intro args m v m' h φ w cargs hr hv
 obtain ⟨a,rfl,h1⟩:=arg1_ok h
 generalize hcl:cargs.toList=L at hv
 cases hv with
 | @cons _ av _ vl v1 hv=>
 cases hv
 have hca:cargs=#[av]:=by rw[← Array.toList_inj]; exact hcl
 rw[hca]
 split at h1
 · obtain ⟨h2,h3⟩:=zAm h1
   simp only[Bool.and_eq_true,zAd,ZAm] at h2
   cases h3
   cases v1
   rw[ZAm]
   exact cloneNew (hrun h2.1) h2.1 (hrow h2.1) hc hkc hkcell hr h2.2
 · obtain ⟨h2,h3⟩:=zAm h1
   simp only[Bool.and_eq_true,zAd,ZAm] at h2
   cases h3
   cases v1
   have hrow5':=hrow5 h2.1
   have hv5:vs5.length=1:=by rcases hrow5' with ⟨e,_⟩|⟨_,_,_,h,_⟩<;>omega
   obtain ⟨u,rfl⟩:∃ u,vs5=[u]:=by
    match vs5,hv5 with
    | [u],_=>exact ⟨u,rfl⟩
   exact cloneNew (kc:=[.any]) clone1 (by decide) hrow5' hc5 (fun φ=>@zAa.cons T φ _ _ _ _ (@VRel.any T φ u (hc5 u (by simp))) (@zAa.nil T φ)) (fun x hx=>by rw[List.mem_singleton] at hx; subst hx; rfl) hr h2.2
 · cases h1
end Go.AM
namespace Go.AM
open Go.Proofs
def XB (m c s s2 p:Nat):Stand:=fun f=>match f with
 |217=>some ⟨insG 2⟩
 |219=>some ⟨repG 2⟩
 |224=>some ⟨cmpX m c s s2 p⟩
 |_=>none
def KB (m c s s2 p:Nat):KH:=callX TZ E1 (XB m c s s2 p) 60
def allLt (f:Nat→Bool):Nat→Bool
 |0=>true
 |n+1=>zAc (allLt f n) false (f n)
theorem zBw {f:Nat→Bool}:∀ {n:Nat},allLt f n=true→∀ i,i<n→f i=true
 |0,_,i,h=>by omega
 |n+1,h,i,hi=>by
  have h':zAc (allLt f n) false (f n)=true:=h
  rw[zAn] at h'
  split at h'
  · rename_i hf
    rcases Nat.lt_or_eq_of_le (Nat.le_of_lt_succ hi) with h1|h1
    · exact zBw h' i h1
    · rw[h1]; exact hf
  · cases h'
def zBe (n c:Nat) (sp:List AVal):Bool:=allLt (fun i=>insRun n i c sp) n
def ZBf (n mv c:Nat) (sp:List AVal):Bool:=allLt (fun i=>repRun n i mv c sp) n
def ZBz (s:Nat):Bool:=allLt (fun p=>putLRun (KB 0 0 s 0 p) 159 2 0 .none s p) (Nat.succ s)
def zAt (m c s:Nat):Bool:=allLt (fun p=>putNRun (KB m c s 0 p) 159 2 0 .none m c s p) (Nat.succ s)
def ZBa (s:Nat):Bool:=allLt (fun p=>nextLRun (KB 0 0 s 0 p) 83 2 0 .none s p) (Nat.succ s)
def nextNRow (m c s:Nat):Bool:=allLt (fun p=>nextNRun (KB m c s 0 p) 83 2 0 .none m c s 0 p) (zAc (Nat.succ s) s (Nat.beq (Nat.succ c) m))
def nextERow (m c s:Nat):Bool:=allLt (fun j=>nextNRun (KB m c s (Nat.add 8 j) s) 83 2 0 .none m c s (Nat.add 8 j) s) 9
end Go.AM
namespace Go.AM
open Go.Proofs
def appV:List AVal→List AVal→List AVal
 | [],y=>y
 |x::l,y=>x::appV l y
def idA:List AVal:=[.int .u8 0,.int .u8 0,.int .u8 0,.int .u8 0,.int .u8 0,.int .u8 0,.int .u8 0,.sym .u8 0]
def anyV:Nat→List AVal
 |0=>[]
 |n+1=>.any::anyV n
def symMap (ns:List Nat):Map:=⟨2,ns,[.sym .u64 0],fun _=>.bad,fun i=>.opq i⟩
def idxR0:List (Nat×AVal):=[(2,.ptr 4 0),(6,.ptr 3 0),(22,.ptr 6 0),(18,.opq 1),(19,.opq 2),(20,.opq 3)]
def B53:Code:=bodyOf TZ 53
def blkOf':Code→Code
 | .block _ b=>b
 |c=>c
def loopOf':Code→Code
 | .block _ (.loop b)=>b
 |c=>c
def LB53:Code:=loopOf' (sr (sl (sr (sr B53))))
def BD53:Code:=blkOf' (sl (sr (sr LB53)))
def B5:Code:=sr BD53
def O53_4:Array Oper:=opsOf (sl BD53)
def C53:List Code:=[sl B5,sl (sr B5),sl (sr (sr B5)),sl (sr (sr (sr B5))),sl (sr (sr (sr (sr B5))))]
def O53_13:Array Oper:=opsOf (sr (sr (sr (sr (sr B5)))))
def Pre53:Array Oper:=(O53_13.toList.take 9).toArray
end Go.AM
namespace Go.AM
def idB (id:Nat):List UInt8:=[0,0,0,0,0,0,0,UInt8.ofNat id]
structure RowD where
 id:Nat
 a:Nat
 b:Nat
def kx (sw:Bool) (r:RowD):Nat:=if sw then r.b else r.a
def ky (sw:Bool) (r:RowD):Nat:=if sw then r.a else r.b
theorem lt_app:∀ {b s:List UInt8},s≠[]→Lt b (b++s)
 | [],s,h=>Lt.nil h
 |x::b,s,h=>by
  show (if x=x then lexC b (b++s) else _) = -1
  rw[if_pos rfl]; exact lt_app h
theorem appV_eq:∀ a b:List AVal,appV a b=a++b
 | [],_=>rfl
 |x::a,b=>by show x::appV a b=_; rw[appV_eq a b]; rfl
theorem bytesV_app (a b:List UInt8):zAl (a++b)=zAl a++zAl b:=List.map_append
theorem anyV_rel {T:Tok} {φ:Phi}:∀ {n:Nat} {vs:List Value},vs.length=n→(∀ v,v∈vs→v.oneCell'=true)→@zAa T φ (anyV n) vs
 |0,[],_,_=>@zAa.nil T φ
 |n+1,v::vs,hl,h=>@zAa.cons T φ _ _ _ _ (@VRel.any T φ v (h v (List.mem_cons_self ..))) (anyV_rel (by simpa using hl) fun u hu=>h u (List.mem_cons_of_mem _ hu))
 |0,_::_,hl,_=>by simp at hl
 |n+1,[],hl,_=>by simp at hl
end Go.AM
namespace Go.AM
open Go.Proofs
theorem bd53_is:BD53=.seq (.region 4 O53_4 false) (seqsC C53 (.region 13 O53_13 true)):=by kernel_rfl
theorem z53_4:O53_4.size=4:=by kernel_rfl
theorem z53_13:O53_13.size=10:=by kernel_rfl
theorem o53_40:OpAt O53_4 0 22 (.indexAddr 67 (.tmp 18) (.tmp 20)):=opAtB (by kernel_rfl) (by kernel_rfl) (by kernel_rfl) (by kernel_rfl)
theorem tz_u67:TZ.underlying 67=some (.slice 69):=by kernel_rfl
theorem tz_has69:hasT TZ 69=true:=by kernel_rfl
theorem tz_sz69:szOf TZ 69=2:=by kernel_rfl
theorem tz_s69 (w:World):(sizeOf 69).run TZ w=.ok 2 w:=by have:=@zAw tok0 TZ w 69 tz_has69; rwa [tz_sz69] at this
theorem g53_4:(O53_4.toList.drop 1).all (ZBo TZ.globals.size)=true:=by kernel_rfl
theorem g53:C53.all (ZBh TZ.globals.size)=true:=by kernel_rfl
theorem g53_13:Pre53.toList.all (ZBo TZ.globals.size)=true:=by kernel_rfl
theorem c53:cutOk O53_13 Pre53 9=true:=by kernel_rfl
theorem o53_9:CallAt O53_13 9 83 98 [74,79,82]:=callAtB (by kernel_rfl) (by kernel_rfl) (by kernel_rfl) (by kernel_rfl)
def L53:Array Bool:=Array.replicate 9 true++Array.replicate (O53_13.size-9) false
theorem r53_9:Region.ready .any O53_13 L53=[9]:=by kernel_rfl
theorem r53_10:Region.ready .any O53_13 (L53.setIfInBounds 9 true)=[]:=by kernel_rfl
theorem pre53:∀ i,i<9→Pre53[i]? = O53_13[i]?:=fun i hi=>by
 unfold Pre53
 rw[List.getElem?_toArray,List.getElem?_take,if_pos hi,Array.getElem?_toList]
theorem run_ix2 {P:Program} {a:Act} {w:World} {o:Oper} {x y tt e z:Nat} (hu:P.underlying tt=some (.slice e)) (hs:∀ w:World,(sizeOf e).run P w=.ok z w) (h:o.op=.indexAddr tt (.tmp x) (.tmp y)) {ad:Addr} {n c i:Nat} (hi:i<n) (hx:a.tmps.getD x undef=.slice (some ad) n c) (hy:a.tmps.getD y undef=.int .i64 (i:Int)) :
 (execOp a.eval o).run P w=.ok (.value (.pointer (some (ad.add (i*z))))) w:=by
 have h1:(0≤(i:Int)∧(i:Int)<(n:Int)):=⟨Int.natCast_nonneg i,by omega⟩
 simp[execOp,h,Act.eval,hx,hy,Instr.indexAt,run_underlying hu,asIntOf,hs,h1,hi]
@[reducible] def tokR (H:Heap) (id:Nat) (h1:1≤id) (h2:id≤127) (v:Nat→Value) (h:∀ j,(v j).oneCell'=true):Tok where
 num _:=(id:Int)
 cnt:=1
 pos _ _:=by omega
 hi _ _:=by omega
 mono i j h1 h2:=by omega
 base:=0
 val:=v
 cell:=h
 hold:=H
 strong:=true
end Go.AM
namespace Go.AM
theorem ins_1:zBe 1 1 []=true:=by kernel_rfl
theorem insk_1 (k:Nat):zBe 1 (Nat.add k 2) (anyL 2)=true:=by kernel_rfl
theorem ins_2:zBe 2 2 []=true:=by kernel_rfl
theorem insk_2 (k:Nat):zBe 2 (Nat.add k 3) (anyL 2)=true:=by kernel_rfl
theorem ins_3:zBe 3 3 []=true:=by kernel_rfl
theorem insk_3 (k:Nat):zBe 3 (Nat.add k 4) (anyL 2)=true:=by kernel_rfl
theorem ins_4:zBe 4 4 []=true:=by kernel_rfl
theorem insk_4 (k:Nat):zBe 4 (Nat.add k 5) (anyL 2)=true:=by kernel_rfl
theorem ins_5:zBe 5 5 []=true:=by kernel_rfl
theorem insk_5 (k:Nat):zBe 5 (Nat.add k 6) (anyL 2)=true:=by kernel_rfl
theorem ins_6:zBe 6 6 []=true:=by kernel_rfl
theorem insk_6 (k:Nat):zBe 6 (Nat.add k 7) (anyL 2)=true:=by kernel_rfl
theorem ins_7:zBe 7 7 []=true:=by kernel_rfl
theorem insk_7 (k:Nat):zBe 7 (Nat.add k 8) (anyL 2)=true:=by kernel_rfl
theorem ins_8:zBe 8 8 []=true:=by kernel_rfl
theorem insk_8 (k:Nat):zBe 8 (Nat.add k 9) (anyL 2)=true:=by kernel_rfl
theorem ins_9:zBe 9 9 []=true:=by kernel_rfl
theorem insk_9 (k:Nat):zBe 9 (Nat.add k 10) (anyL 2)=true:=by kernel_rfl
theorem ins_10:zBe 10 10 []=true:=by kernel_rfl
theorem insk_10 (k:Nat):zBe 10 (Nat.add k 11) (anyL 2)=true:=by kernel_rfl
theorem ins_11:zBe 11 11 []=true:=by kernel_rfl
theorem insk_11 (k:Nat):zBe 11 (Nat.add k 12) (anyL 2)=true:=by kernel_rfl
theorem ins_12:zBe 12 12 []=true:=by kernel_rfl
theorem insk_12 (k:Nat):zBe 12 (Nat.add k 13) (anyL 2)=true:=by kernel_rfl
theorem ins_13:zBe 13 13 []=true:=by kernel_rfl
theorem insk_13 (k:Nat):zBe 13 (Nat.add k 14) (anyL 2)=true:=by kernel_rfl
theorem ins_14:zBe 14 14 []=true:=by kernel_rfl
theorem insk_14 (k:Nat):zBe 14 (Nat.add k 15) (anyL 2)=true:=by kernel_rfl
theorem ins_15:zBe 15 15 []=true:=by kernel_rfl
theorem insk_15 (k:Nat):zBe 15 (Nat.add k 16) (anyL 2)=true:=by kernel_rfl
theorem ins_16:zBe 16 16 []=true:=by kernel_rfl
theorem insk_16 (k:Nat):zBe 16 (Nat.add k 17) (anyL 2)=true:=by kernel_rfl
theorem rep_1_1:ZBf 1 1 1 []=true:=by kernel_rfl
theorem repk_1_1 (k:Nat):ZBf 1 1 (Nat.add k 2) (anyL 1)=true:=by kernel_rfl
theorem rep_1_2:ZBf 1 2 1 []=true:=by kernel_rfl
theorem repk_1_2 (k:Nat):ZBf 1 2 (Nat.add k 2) (anyL 1)=true:=by kernel_rfl
theorem rep_2_1:ZBf 2 1 2 []=true:=by kernel_rfl
theorem repk_2_1 (k:Nat):ZBf 2 1 (Nat.add k 3) (anyL 1)=true:=by kernel_rfl
theorem rep_2_2:ZBf 2 2 2 []=true:=by kernel_rfl
theorem repk_2_2 (k:Nat):ZBf 2 2 (Nat.add k 3) (anyL 1)=true:=by kernel_rfl
theorem rep_3_1:ZBf 3 1 3 []=true:=by kernel_rfl
theorem repk_3_1 (k:Nat):ZBf 3 1 (Nat.add k 4) (anyL 1)=true:=by kernel_rfl
theorem rep_3_2:ZBf 3 2 3 []=true:=by kernel_rfl
theorem repk_3_2 (k:Nat):ZBf 3 2 (Nat.add k 4) (anyL 1)=true:=by kernel_rfl
theorem rep_4_1:ZBf 4 1 4 []=true:=by kernel_rfl
theorem repk_4_1 (k:Nat):ZBf 4 1 (Nat.add k 5) (anyL 1)=true:=by kernel_rfl
theorem rep_4_2:ZBf 4 2 4 []=true:=by kernel_rfl
theorem repk_4_2 (k:Nat):ZBf 4 2 (Nat.add k 5) (anyL 1)=true:=by kernel_rfl
theorem rep_5_1:ZBf 5 1 5 []=true:=by kernel_rfl
theorem repk_5_1 (k:Nat):ZBf 5 1 (Nat.add k 6) (anyL 1)=true:=by kernel_rfl
theorem rep_5_2:ZBf 5 2 5 []=true:=by kernel_rfl
theorem repk_5_2 (k:Nat):ZBf 5 2 (Nat.add k 6) (anyL 1)=true:=by kernel_rfl
theorem rep_6_1:ZBf 6 1 6 []=true:=by kernel_rfl
theorem repk_6_1 (k:Nat):ZBf 6 1 (Nat.add k 7) (anyL 1)=true:=by kernel_rfl
theorem rep_6_2:ZBf 6 2 6 []=true:=by kernel_rfl
theorem repk_6_2 (k:Nat):ZBf 6 2 (Nat.add k 7) (anyL 1)=true:=by kernel_rfl
end Go.AM
namespace Go.AM
theorem putL_0:ZBz 0=true:=by kernel_rfl
theorem nextL_0:ZBa 0=true:=by kernel_rfl
theorem putL_1:ZBz 1=true:=by kernel_rfl
theorem nextL_1:ZBa 1=true:=by kernel_rfl
theorem putL_2:ZBz 2=true:=by kernel_rfl
theorem nextL_2:ZBa 2=true:=by kernel_rfl
theorem putL_3:ZBz 3=true:=by kernel_rfl
theorem nextL_3:ZBa 3=true:=by kernel_rfl
theorem putL_4:ZBz 4=true:=by kernel_rfl
theorem nextL_4:ZBa 4=true:=by kernel_rfl
theorem putL_5:ZBz 5=true:=by kernel_rfl
theorem nextL_5:ZBa 5=true:=by kernel_rfl
theorem putL_6:ZBz 6=true:=by kernel_rfl
theorem nextL_6:ZBa 6=true:=by kernel_rfl
theorem putL_7:ZBz 7=true:=by kernel_rfl
theorem nextL_7:ZBa 7=true:=by kernel_rfl
theorem putL_8:ZBz 8=true:=by kernel_rfl
theorem nextL_8:ZBa 8=true:=by kernel_rfl
theorem putL_9:ZBz 9=true:=by kernel_rfl
theorem nextL_9:ZBa 9=true:=by kernel_rfl
theorem putL_10:ZBz 10=true:=by kernel_rfl
theorem nextL_10:ZBa 10=true:=by kernel_rfl
theorem putL_11:ZBz 11=true:=by kernel_rfl
theorem nextL_11:ZBa 11=true:=by kernel_rfl
theorem putL_12:ZBz 12=true:=by kernel_rfl
theorem nextL_12:ZBa 12=true:=by kernel_rfl
theorem putL_13:ZBz 13=true:=by kernel_rfl
theorem nextL_13:ZBa 13=true:=by kernel_rfl
theorem putL_14:ZBz 14=true:=by kernel_rfl
theorem nextL_14:ZBa 14=true:=by kernel_rfl
theorem putL_15:ZBz 15=true:=by kernel_rfl
theorem nextL_15:ZBa 15=true:=by kernel_rfl
theorem putL_16:ZBz 16=true:=by kernel_rfl
theorem nextL_16:ZBa 16=true:=by kernel_rfl
end Go.AM
namespace Go.AM
theorem ins_all:∀ n:Nat,n≤16→zBe n n []=true∧∀ k,zBe n (Nat.add k (Nat.succ n)) (anyL 2)=true
 |0,_=>⟨rfl,fun _=>rfl⟩
 |1,_=>⟨ins_1,insk_1⟩
 |2,_=>⟨ins_2,insk_2⟩
 |3,_=>⟨ins_3,insk_3⟩
 |4,_=>⟨ins_4,insk_4⟩
 |5,_=>⟨ins_5,insk_5⟩
 |6,_=>⟨ins_6,insk_6⟩
 |7,_=>⟨ins_7,insk_7⟩
 |8,_=>⟨ins_8,insk_8⟩
 |9,_=>⟨ins_9,insk_9⟩
 |10,_=>⟨ins_10,insk_10⟩
 |11,_=>⟨ins_11,insk_11⟩
 |12,_=>⟨ins_12,insk_12⟩
 |13,_=>⟨ins_13,insk_13⟩
 |14,_=>⟨ins_14,insk_14⟩
 |15,_=>⟨ins_15,insk_15⟩
 |16,_=>⟨ins_16,insk_16⟩
 |n+17,h=>absurd h (by omega)
theorem rep_all1:∀ n:Nat,n≤6→ZBf n 1 n []=true∧∀ k,ZBf n 1 (Nat.add k (Nat.succ n)) (anyL 1)=true
 |0,_=>⟨rfl,fun _=>rfl⟩
 |1,_=>⟨rep_1_1,repk_1_1⟩
 |2,_=>⟨rep_2_1,repk_2_1⟩
 |3,_=>⟨rep_3_1,repk_3_1⟩
 |4,_=>⟨rep_4_1,repk_4_1⟩
 |5,_=>⟨rep_5_1,repk_5_1⟩
 |6,_=>⟨rep_6_1,repk_6_1⟩
 |n+7,h=>absurd h (by omega)
theorem rep_all2:∀ n:Nat,n≤6→ZBf n 2 n []=true∧∀ k,ZBf n 2 (Nat.add k (Nat.succ n)) (anyL 1)=true
 |0,_=>⟨rfl,fun _=>rfl⟩
 |1,_=>⟨rep_1_2,repk_1_2⟩
 |2,_=>⟨rep_2_2,repk_2_2⟩
 |3,_=>⟨rep_3_2,repk_3_2⟩
 |4,_=>⟨rep_4_2,repk_4_2⟩
 |5,_=>⟨rep_5_2,repk_5_2⟩
 |6,_=>⟨rep_6_2,repk_6_2⟩
 |n+7,h=>absurd h (by omega)
theorem putL_all:∀ s:Nat,s≤16→ZBz s=true
 |0,_=>putL_0
 |1,_=>putL_1
 |2,_=>putL_2
 |3,_=>putL_3
 |4,_=>putL_4
 |5,_=>putL_5
 |6,_=>putL_6
 |7,_=>putL_7
 |8,_=>putL_8
 |9,_=>putL_9
 |10,_=>putL_10
 |11,_=>putL_11
 |12,_=>putL_12
 |13,_=>putL_13
 |14,_=>putL_14
 |15,_=>putL_15
 |16,_=>putL_16
 |s+17,h=>absurd h (by omega)
end Go.AM
namespace Go.AM
open Go.Proofs
def X1:Stand:=fun f=>match f with
 |217=>some ⟨insX 2⟩
 |_=>none
def X2:Stand:=fun f=>match f with
 |53=>some ⟨idxX 2 0 b00⟩
 |217=>some ⟨insX 2⟩
 |_=>none
def K1:KH:=callX TZ E1 X1 100
def K2:KH:=callX TZ E1 X2 100
def B4:Code:=bodyOf TZ 4
def B4m:Code:=sr (sr (sr B4))
def loopOf:Code→Code
 | .block _ (.loop b)=>b
 |c=>c
def blkOf:Code→Code
 | .block _ b=>b
 |c=>c
def B4l:Code:=loopOf (sr (sl (sr (sr (sr B4m)))))
def B4b:Code:=blkOf (sl (sr B4l))
def SW:Code:=sr (sl B4b)
def RST:Code:=sr B4b
def rr (n c:Nat):Prop:=roundRun TZ K2 2 0 b00 SW RST n c=true
end Go.AM
namespace Go.AM
open Go.Proofs
def T4:Code:=sr (sr B4)
def thenOf:Code→Code
 | .cond _ x _=>x
 |c=>c
def O4:Array Oper:=opsOf (sl (thenOf (sr (sl T4))))
theorem tz_u22:TZ.underlying 22=some (.slice 5):=by kernel_rfl
theorem x1_ok {T:Tok}:∀ f g,X1 f=some g→@ZCr T TZ f g.run:=by
 intro f g h
 unfold X1 at h
 split at h
 · cases h; exact insX_ok ZAa (by decide) ins_runs
 · cases h
theorem k1_ok (T:Tok):@zBb T TZ K1:=callX_ok zBt tz_gprog tz_ext x1_ok 100
def phi0 (c:Nat):Phi:=fun p=>match p with
 |0=>some (0,0,c)
 |1=>some (1,0,0)
 |2=>some (2,0,0)
 |_+3=>none
theorem m00_get (p:Nat) (hp:p<65536):(m00 2 0 b00).get p=if p=0 then b00 else .none:=by
 have:=zAu (G:=2) (g0:=0) (b0:=b00) (l:=[]) (by decide) (by decide) hp
 have h2:¬ (2+1≤p∧p<2+1+([]:List Blk).length):=by simp
 rw[if_neg h2] at this
 exact this
theorem rel0 {T:Tok} (hT:T.hold=fun _=>none) (hS:T.strong=false) {P:Program} (hG:P.globals.size=2) {w:World} {c:Array Value} {el:TypeId} {fz:Nat×Nat} (h0:w.heap[0]? = some (.cells c el fz)) (hc:c[0]? = some (.iface 219 (.agg #[.pointer (some ⟨2,27,none⟩)]))) (h2:2≤w.heap.size) :
 @Rel T P (phi0 c.size) (m00 2 0 b00) w:=by
 have hn:(m00 2 0 b00).next=3:=rfl
 have hcs:0<c.size:=by
  rcases Nat.eq_zero_or_pos c.size with h|h
  · rw[Array.getElem?_eq_none (by omega)] at hc; cases hc
  · exact h
 refine @Rel.mk T P _ _ _ (by rw[hn]; decide) ?_ ?_ ?_ ?_ ?_ ?_ ?_ ?_ (fun b o hb=>by rw[hT] at hb; cases hb) (fun p b o s _ _ _=>by rw[hT]) (fun h=>by rw[hS] at h; cases h)
 · intro p x hp
   rw[hn]
   match p,hp with
   |0,_=>decide
   |1,_=>decide
   |2,_=>decide
   |p+3,hp=>cases hp
 · intro p b o s hp hne
   rw[hG] at hne
   match p,hp with
   |0,hp=>cases hp; omega
   |1,hp=>cases hp; omega
   |2,_=>exact absurd rfl hne
   |p+3,hp=>cases hp
 · rw[hG]; rfl
 · rw[hG,m00_get 2 (by decide)]; rfl
 · intro g hg
   rw[hG] at hg
   match g,hg with
   |0,_=>exact ⟨c.size,rfl⟩
   |1,_=>exact ⟨0,rfl⟩
   |g+2,hg=>omega
 · intro p hp
   rw[hn] at hp
   rw[m00_get p (by omega)]
   match p,hp with
   |0,_=>
    rw[if_pos rfl]
    have e:(c.toList.drop 0).take [AVal.iface 219 (.agg [.ptr 2 27])].length=[.iface 219 (.agg #[.pointer (some ⟨2,27,none⟩)])]:=by
     apply List.ext_getElem?
     intro j
     match j with
     |0=>rw[List.getElem?_take,if_pos (by decide),List.getElem?_drop,Array.getElem?_toList]; exact hc
     |j+1=>rw[List.getElem?_take,if_neg (by show ¬ (j+1<1); omega)]; rfl
    refine ⟨0,0,c,el,fz,rfl,h0,by show 0+1≤_; omega,?_,fun v hv=>?_,fun h=>by cases h⟩
    · rw[e]
      refine @zAa.cons T _ _ _ _ _ (@VRel.iface T _ _ _ _ (@VRel.agg T _ _ _ (@zAa.cons T _ _ _ _ _ (@VRel.ptr T _ 2 27 2 0 0 rfl) (@zAa.nil T _)) (fun v hv=>?_))) (@zAa.nil T _)
      rw[List.mem_singleton] at hv; subst hv; rfl
    · rw[List.mem_singleton] at hv; subst hv; rfl
   |p+1,_=>rw[if_neg (by omega)]; trivial
 · intro p q b o s o' s' hp _ _ hw _ _ _
   rw[hn] at hp
   rw[m00_get p (by omega)] at hw
   split at hw
   · cases hw
   · cases hw
 · intro p hp hlt
   rw[hn] at hp
   rw[m00_get p hlt,if_neg (by omega)]
end Go.AM
namespace Go.AM
open Go.Proofs
theorem ins_edruns (n i:Nat) (hn:n≤16) (hi:i<n):EdRuns TZ 217 2 n 2 1 (n+1) [.int .i64 (.ofNat i)] (selIns n i):=by
 obtain ⟨h1,h2⟩:=ins_all n hn
 exact edRuns_of (K:=KO) ko_ok (zBw h1 i hi) fun k=>zBw (h2 k) i hi
theorem rep_edruns (n i mv:Nat) (hn:n≤6) (hi:i<n) (h1:1≤mv) (h2:mv≤2):EdRuns TZ 219 2 n 1 mv (n+mv-1) [.int .i64 (.ofNat i),.int .i64 (.ofNat (i+1))] (selRep n i mv):=by
 have hmv:mv=1∨mv=2:=by omega
 rcases hmv with rfl|rfl
 · obtain ⟨g1,g2⟩:=rep_all1 n hn
   exact edRuns_of (K:=KO) ko_ok (zBw g1 i hi) fun k=>zBw (g2 k) i hi
 · obtain ⟨g1,g2⟩:=rep_all2 n hn
   exact edRuns_of (K:=KO) ko_ok (zBw g1 i hi) fun k=>zBw (g2 k) i hi
theorem xb_ok {T:Tok} (hst:T.strong=true) {m c s s2 p:Nat} (hc:CmpT T m c s s2 p):∀ f g,XB m c s s2 p f=some g→@ZCr T TZ f g.run:=by
 intro f g h
 unfold XB at h
 split at h
 · cases h; exact insG_ok hst ZAa (by decide) ins_edruns
 · cases h; exact repG_ok hst ZAa (by decide) rep_edruns
 · cases h; exact cmpX_ok hc (tz_ext 224 .compare rfl)
 · cases h
theorem kb_ok (T:Tok) (m c s s2 p:Nat) (hst:T.strong=true) (hc:CmpT T m c s s2 p):@zBb T TZ (KB m c s s2 p):=callX_ok zBt tz_gprog tz_ext (xb_ok hst hc) 60
end Go.AM
namespace Go.AM
open Go.Proofs
theorem Lt.irr {a:List UInt8} (h:Lt a a):False:=by
 have h':lexC a a = -1:=h
 rw[lexC_refl] at h'
 cases h'
theorem bytes_one {bs:List UInt8}:∀ v,v∈zAl bs→v.oneCell'=true:=fun v hv=>bytesV_cell hv
theorem anyV_len:∀ n:Nat,(anyV n).length=n
 |0=>rfl
 |n+1=>by show (anyV n).length+1=_; rw[anyV_len n]
theorem anyV_cell:∀ {n:Nat} {x:AVal},x∈anyV n→x.isCell=true
 |n+1,x,h=>by
  rcases List.mem_cons.1 h with rfl|h
  · rfl
  · exact anyV_cell h
theorem symRel {T:Tok} (hst:T.strong=true) {ns:List Nat} {φ:Phi} {m:Mem} {w:World} {E:List Blk} (hr:@Rel T TZ φ m w) (h:zAp (symMap ns) 0 .none E m=true) :
 @Rel T TZ (zAj (symMap ns) φ) (zAe 2 0 .none E) w∧∀ t s,absN (symMap ns) 4 t s=true→∀ c,@VRel T φ s c→@VRel T (zAj (symMap ns) φ) t c:=
 absorb (T:=T) (T':=T) (σ:=symMap ns) (g0:=0) (b0:=.none) ZAa.symm hr h (fun kk j c hj hc=>by
  have hj':j<1:=hj
  have e:j=0:=by omega
  subst e
  have hc':@VRel T φ (.sym kk 0) c:=hc
  cases hc' with
  |sym _ _ hj=>exact @VRel.sym T _ kk 0 hj) (fun kk d s c hs _=>(aeq_bad hs).elim)
  (fun i s c hs hc=>by
   have e:=@ZAf tok0 2 _ _ (show aeqN 2 s (.opq i)=true from hs)
   subst e
   cases hc; exact @VRel.opq T _ i) (fun _ _ h=>h) (fun _=>⟨hst,rfl⟩)
theorem idA_un {T:Tok} {φ:Phi} {id:Nat} (hnum:T.num 0=(id:Int)) (h:id≤127) {us:List Value} (hu:@zAa T φ idA us):us=zAl (idB id):=by
 have h':@zAa T φ (bytesA [0,0,0,0,0,0,0]++[.sym .u8 0]) us:=hu
 have hl:us.length=8:=@zAa.length T φ _ _ h'
 have h1:=ZCn (T:=T) 7 h'
 have h2:=vals_bytes (T:=T) (bs:=[0,0,0,0,0,0,0]) h1
 obtain ⟨c,g1,g2⟩:=@zAa.get T φ _ _ h' 7 (.sym .u8 0) rfl
 have g3:c=.int .u8 (id:Int):=by
  cases g2 with
  |sym _ _ hj=>rw[hnum]
 subst g3
 have e:us=us.take 7++[.int .u8 (id:Int)]:=by
  match us,hl,g1 with
  | [_,_,_,_,_,_,_,z],_,g1=>
   simp only[List.getElem?_cons_succ,List.getElem?_cons_zero,Option.some.injEq] at g1
   subst g1; rfl
 rw[e,h2]
 have e2:(UInt8.ofNat id).toNat=id:=by simp; omega
 simp only[zAl,idB,List.map_cons,List.map_nil,List.cons_append,List.nil_append,e2]
end Go.AM
namespace Go.AM
open Go.Proofs
theorem len53:(O53_4.toList.drop 1).length=3:=by kernel_rfl
theorem left_in {H:Heap} {w w':World} (hH:In H w) (hl:ZAb w w'):In H w':=fun b o h=>by
 rw[hl.1 b (@ZAq tok0 w b _ (hH b o h))]; exact hH b o h
theorem ZAx.left {w w':World} {p:Nat} {vs:List Value} (h:ZAx w p vs) (hl:ZAb w w'):ZAx w' p vs:=by
 obtain ⟨c,el,fz,h1,h2⟩:=h
 exact ⟨c,el,fz,by rw[hl.1 p (@ZAq tok0 w p _ h1)]; exact h1,h2⟩
theorem ptr_is {T:Tok} {φ:Phi} {q:Nat} {c:Value} {x:Img} (h:@VRel T φ (.ptr q 0) c) (hφ:φ q=some x):c=ptrV x:=by
 cases h with
 |ptr _ _ cb co sz h1=>
  rw[hφ] at h1
  cases h1
  rfl
theorem ZAw {T:Tok} {φ:Phi} {j:Nat} {c:Value} (h:@VRel T φ (.opq j) c):c=T.val j:=by
 cases h; rfl
attribute [local irreducible] O53_4 O53_13 C53 in
theorem round_a {T:Tok} {K:KH} (hK:@zBb T TZ K) {m0 m1:Mem} {v1:List AVal} (hq:zCg TZ 86 K O53_4 (O53_4.toList.drop 1) idxR0 [2,6,8,18,19,20] m0=.ok (.tuple v1) m1) {φ0:Phi} {w:World} (hrel:@Rel T TZ φ0 m0 w)
 {p:Nat} {box:Img} {rb ro rs n cap i:Nat} (hi:i<n) (f3:φ0 3=some (p,0,2)) (f4:φ0 4=some box) (f6:φ0 6=some (rb,ro+i*2,rs)) {a:Act} (ha:zBc 86 a) (g2:a.tmps.getD 2 undef=ptrV box) (g6:a.tmps.getD 6 undef=.pointer (some ⟨p,0,none⟩))
 (g18:a.tmps.getD 18 undef=.slice (some ⟨rb,ro,none⟩) n cap) (g19:a.tmps.getD 19 undef=.int .i64 (n:Int)) (g20:a.tmps.getD 20 undef=.int .i64 (i:Int)) (t1:T.val 1=.slice (some ⟨rb,ro,none⟩) n cap) (t2:T.val 2=.int .i64 (n:Int)) (t3:T.val 3=.int .i64 (i:Int)) {Q:Exit→Act→World→Prop}
 (hn:∀ φ1 a1 w1,@Step T TZ φ0 m0 w φ1 m1 w1→zBc 86 a1→@zAa T φ1 v1 (zCe [2,6,8,18,19,20] a1)→(seqsC C53 (.region 13 O53_13 true)).wp TZ Q a1 w1):BD53.wp TZ Q a w:=by
 rw[bd53_is]
 refine wp_seq (wp_region ?_)
 rw[z53_4]
 have hrange:List.range 4=0::(List.range' 1 (O53_4.toList.drop 1).length++[]):=by rw[len53]; rfl
 rw[hrange]
 have hix:∀ o:Oper,o.op=.indexAddr 67 (.tmp 18) (.tmp 20)→(execOp a.eval o).run TZ w=.ok (.value (.pointer (some ((⟨rb,ro,none⟩:Addr).add (i*2))))) w:=by
  intro o ho
  exact run_ix2 tz_u67 tz_s69 ho hi g18 g20
 refine ZCs o53_40 hix ?_
 have ha1:=zCu ha (some 22) (.pointer (some ((⟨rb,ro,none⟩:Addr).add (i*2))))
 have e22:=zBm ha (by decide:22<86) (.pointer (some ((⟨rb,ro,none⟩:Addr).add (i*2))))
 have oth:∀ t,t≠22→(a.put (some 22) (.pointer (some ((⟨rb,ro,none⟩:Addr).add (i*2))))).tmps.getD t undef=a.tmps.getD t undef:=fun t ht=>ZAi ha (by decide:22<86) _ ht
 generalize a.put (some 22) (.pointer (some ((⟨rb,ro,none⟩:Addr).add (i*2))))=a1 at ha1 e22 oth
 refine @ZCc TZ T K hK 86 O53_4 _ 1 (O53_4.toList.drop 1) [] List.take_length g53_4 _ _ _ _ _ hq φ0 w a1 hrel ha1 (by decide) (fun q hq=>?_) (fun φ1 a2 w1 hst ha2 hv=>?_)
 rotate_left
 · have h:=hn φ1 a2 w1 hst ha2 hv
   unfold wpOps
   exact h
 simp only[idxR0,List.mem_cons,List.not_mem_nil,or_false] at hq
 rcases hq with rfl|rfl|rfl|rfl|rfl|rfl
 · refine ⟨(by decide:2<4096),?_⟩
   show @VRel T φ0 (.ptr 4 0) (a1.tmps.getD 2 undef)
   rw[oth 2 (by decide),g2]; exact @VRel.ptr T φ0 4 0 box.1 box.2.1 box.2.2 f4
 · refine ⟨(by decide:6<4096),?_⟩
   show @VRel T φ0 (.ptr 3 0) (a1.tmps.getD 6 undef)
   rw[oth 6 (by decide),g6]; exact @VRel.ptr T φ0 3 0 p 0 2 f3
 · refine ⟨(by decide:22<4096),?_⟩
   show @VRel T φ0 (.ptr 6 0) (a1.tmps.getD 22 undef)
   rw[e22]
   have e:∀ o k:Nat,({ block:=rb,off:=o }:Addr).add k=⟨rb,o+k,none⟩:=fun o k=>by
    unfold Addr.add
    split
    · rename_i h; subst h; rfl
    · rfl
   rw[e]
   exact @VRel.ptr T φ0 6 0 rb (ro+i*2) rs f6
 · refine ⟨(by decide:18<4096),?_⟩
   show @VRel T φ0 (.opq 1) (a1.tmps.getD 18 undef)
   rw[oth 18 (by decide),g18,← t1]; exact @VRel.opq T φ0 1
 · refine ⟨(by decide:19<4096),?_⟩
   show @VRel T φ0 (.opq 2) (a1.tmps.getD 19 undef)
   rw[oth 19 (by decide),g19,← t2]; exact @VRel.opq T φ0 2
 · refine ⟨(by decide:20<4096),?_⟩
   show @VRel T φ0 (.opq 3) (a1.tmps.getD 20 undef)
   rw[oth 20 (by decide),g20,← t3]; exact @VRel.opq T φ0 3
end Go.AM
namespace Go.AM
open Go.Proofs
theorem vals8 {T:Tok} {φ:Phi} {a:Act} {x2 x6 x18 x19 x20 x74 x79 x82:AVal} (h:@zAa T φ [x2,x6,x18,x19,x20,x74,x79,x82] (zCe [2,6,18,19,20,74,79,82] a)) :
 @VRel T φ x2 (a.tmps.getD 2 undef)∧@VRel T φ x6 (a.tmps.getD 6 undef)∧@VRel T φ x18 (a.tmps.getD 18 undef)∧@VRel T φ x19 (a.tmps.getD 19 undef)∧@VRel T φ x20 (a.tmps.getD 20 undef)∧@VRel T φ x74 (a.tmps.getD 74 undef)∧@VRel T φ x79 (a.tmps.getD 79 undef)∧@VRel T φ x82 (a.tmps.getD 82 undef):=by
 cases h with
 |cons h1 h=>
 cases h with
 |cons h2 h=>
 cases h with
 |cons h3 h=>
 cases h with
 |cons h4 h=>
 cases h with
 |cons h5 h=>
 cases h with
 |cons h6 h=>
 cases h with
 |cons h7 h=>
 cases h with
 |cons h8 h=>
 exact ⟨h1,h2,h3,h4,h5,h6,h7,h8⟩
end Go.AM
namespace Go.AM
open Go.Proofs
def R53_0:Code:=sl B53
def R53_1:Code:=sl (sr B53)
def O53_2:Array Oper:=opsOf (sl (sl (sr (sr B53))))
def O53_3:Array Oper:=opsOf (sl LB53)
def O53_14:Array Oper:=opsOf (sr (sr (sr LB53)))
def X53_15:Code:=sr (sr (sr B53))
theorem b53_is:B53=.seq R53_0 (.seq R53_1 (.seq (.seq (.region 2 O53_2 false) (.block 0 (.loop LB53))) X53_15)):=by kernel_rfl
theorem lb53_is:LB53=.seq (.region 3 O53_3 false) (.seq (.cond (.tmp 21) .skip (.exit 0)) (.seq (.block 1 BD53) (.region 14 O53_14 false))):=by kernel_rfl
theorem o53_s2:O53_2.size=3:=by kernel_rfl
theorem o53_s3:O53_3.size=1:=by kernel_rfl
theorem o53_s14:O53_14.size=2:=by kernel_rfl
theorem o53_20:OpAt O53_2 0 18 (.move (.tmp 1)):=opAtB (by kernel_rfl) (by kernel_rfl) (by kernel_rfl) (by kernel_rfl)
theorem o53_21:OpAt O53_2 1 19 (.call ⟨.builtin .len,#[.tmp 18],#[67]⟩):=opAtB (by kernel_rfl) (by kernel_rfl) (by kernel_rfl) (by kernel_rfl)
theorem o53_22:OpAt O53_2 2 20 (.move (.const (.int .i64 0))):=opAtB (by kernel_rfl) (by kernel_rfl) (by kernel_rfl) (by kernel_rfl)
theorem o53_30:OpAt O53_3 0 21 (.binOp .lss 3 (.tmp 20) (.tmp 19) 3):=opAtB (by kernel_rfl) (by kernel_rfl) (by kernel_rfl) (by kernel_rfl)
theorem o53_140:OpAt O53_14 0 84 (.binOp .add 3 (.tmp 20) (.const (.int .i64 1)) 3):=opAtB (by kernel_rfl) (by kernel_rfl) (by kernel_rfl) (by kernel_rfl)
theorem o53_141:OpAt O53_14 1 20 (.move (.tmp 84)):=opAtB (by kernel_rfl) (by kernel_rfl) (by kernel_rfl) (by kernel_rfl)
theorem g53_s:[R53_0,R53_1].all (ZBh TZ.globals.size)=true:=by kernel_rfl
theorem g53_e:ZBh TZ.globals.size X53_15=true:=by kernel_rfl
def fn53:Func:=(TZ.funcs[53]?).getD default
theorem fn53_is:TZ.funcs[53]? = some fn53:=by kernel_rfl
theorem fn53_body:fn53.body=some B53:=by kernel_rfl
theorem fn53_nt:fn53.ntmps=86:=by kernel_rfl
theorem fn53_res:fn53.results.toList=[.tmp 4,.tmp 5]:=by kernel_rfl
theorem fn53_name:fn53.name≠ "runtime.NumGoroutine":=by
 have h:(fn53.name == "runtime.NumGoroutine")=false:=by kernel_rfl
 intro e
 rw[e] at h; simp at h
def startRun:Bool:=
 match oneRun TZ 86 KO R53_0 ⟨true,fun _=>false,false⟩ [(0,.agg [.opq 0,.opq 1,.bool true,.opq 2]),(1,.opq 3)] [1,2] (zAe 2 0 .none []) with
 | .ok (.tuple [x1,.ptr qb ob]) m=>and (and (aeqN 2 x1 (.opq 3)) (Nat.beq ob 0)) (and (freshNs 3 [qb]) (zAp (zAx 2 [qb]) 0 .none [.cells true [.opq 0,.opq 1,.bool true,.opq 2]] m))
 |_=>false
def O53_1:Array Oper:=opsOf R53_1
theorem r53_1:R53_1=.region 1 O53_1 false:=by kernel_rfl
theorem o53_s1:O53_1.size=2:=by kernel_rfl
theorem o53_10:CallAt O53_1 0 17 97 []:=callAtB (by kernel_rfl) (by kernel_rfl) (by kernel_rfl) (by kernel_rfl)
theorem o53_11:OpAt O53_1 1 6 (.assign (.tmp 17)):=opAtB (by kernel_rfl) (by kernel_rfl) (by kernel_rfl) (by kernel_rfl)
def B97:Code:=bodyOf TZ 97
def R97_0:Code:=sl B97
def O97:Array Oper:=opsOf (sl (sr B97))
theorem b97_is:B97=.seq R97_0 (.seq (.region 1 O97 false) .ret):=by kernel_rfl
theorem o97_s:O97.size=5:=by kernel_rfl
theorem o97_l:(O97.toList.take 3).length=3:=by kernel_rfl
theorem g97_0:ZBh TZ.globals.size R97_0=true:=by kernel_rfl
theorem g97_1:(O97.toList.take 3).all (ZBo TZ.globals.size)=true:=by kernel_rfl
theorem o97_3:OpAt O97 3 4 (.box 188 (.tmp 3)):=opAtB (by kernel_rfl) (by kernel_rfl) (by kernel_rfl) (by kernel_rfl)
theorem o97_4:OpAt O97 4 0 (.assign (.tmp 4)):=opAtB (by kernel_rfl) (by kernel_rfl) (by kernel_rfl) (by kernel_rfl)
def fn97:Func:=(TZ.funcs[97]?).getD default
theorem fn97_is:TZ.funcs[97]? = some fn97:=by kernel_rfl
theorem fn97_body:fn97.body=some B97:=by kernel_rfl
theorem fn97_nt:fn97.ntmps=5:=by kernel_rfl
theorem fn97_res:fn97.results.toList=[.tmp 0]:=by kernel_rfl
theorem fn97_name:fn97.name≠ "runtime.NumGoroutine":=by
 have h:(fn97.name == "runtime.NumGoroutine")=false:=by kernel_rfl
 intro e
 rw[e] at h; simp at h
def newRun:Bool:=
 match oneRun TZ 5 KO R97_0 ⟨true,fun _=>false,false⟩ [] [] (zAe 2 0 .none []) with
 | .ok (.tuple []) m1=>(match zCg TZ 5 KO O97 (O97.toList.take 3) [] [3] m1 with
  | .ok (.tuple [.agg [.ptr qn on,y]]) m=>and (and (Nat.beq on 0) (aeqN 2 y (.int .i64 0))) (and (freshNs 3 [qn]) (zAp (zAx 2 [qn]) 0 .none [.cells true [.nilslice,.nilslice,.nilslice]] m))
  |_=>false)
 |_=>false
theorem new_run:newRun=true:=by kernel_rfl
def endRun:Bool:=
 match oneRun TZ 86 KO X53_15 ⟨false,fun _=>false,true⟩ [(6,.opq 0)] [4,5] (zAe 2 0 .none []) with
 | .ok (.tuple [x4,x5]) m=>and (aeqN 2 x4 (.opq 0)) (aeqN 2 x5 .niliface)
 |_=>false
theorem end_run:endRun=true:=by kernel_rfl
end Go.AM
namespace Go.AM
open Go.Proofs
variable {P:Program}
theorem zAi.at_ {H H':Heap} {x:Img} {cs:List Value} (h:zAi H x cs) (e:H' x.1=H x.1):zAi H' x cs:=by
 obtain ⟨c,el,fz,h1,h2⟩:=h
 exact ⟨c,el,fz,e.trans h1,h2⟩
theorem wpOps_call {ops:Array Oper} {Q:Exit→Act→World→Prop} {i d:Nat} {g:FuncId} {ts:List Nat} {js:List Nat} {a:Act} {w:World} (h:CallAt ops i d g ts) {R':Value→World→Prop} (hE:Ends P g (ts.map fun t=>a.tmps.getD t undef).toArray w R')
 (hn:∀ c w',R' c w'→wpOps P ops Q js (a.put (some d) c) w'):wpOps P ops Q (i::js) a w:=by
 obtain ⟨o,h1,h2,h3,h4⟩:=h.is
 unfold wpOps
 rw[h1]
 simp only
 have hwant:Region.wanted o (yielded ops a.tmps)=true:=by unfold Region.wanted; rw[h2]
 rw[if_pos hwant]
 left
 letI:=tok0
 exact ends_wp (callAt_run h4) hE fun c w' hR=>by rw[h3]; exact hn c w' hR
theorem wpOps_eff {ops:Array Oper} {Q:Exit→Act→World→Prop} {i d:Nat} {op:Op} (h:OpAt ops i d op) {js:List Nat} {a:Act} {w w':World} {v:Value} (hr:∀ o:Oper,o.op=op→(execOp a.eval o).run P w=.ok (.value v) w')
 (hn:wpOps P ops Q js (a.put (some d) v) w'):wpOps P ops Q (i::js) a w:=by
 obtain ⟨o,h1,h2,h3,h4⟩:=h.is
 unfold wpOps
 rw[h1]
 simp only
 have hwant:Region.wanted o (yielded ops a.tmps)=true:=by unfold Region.wanted; rw[h2]
 rw[if_pos hwant]
 left
 unfold Oper.wp
 rw[hr o h4,Oper.upon_value,h3]
 exact hn
theorem run_box {a:Act} {w:World} {o:Oper} {e t:Nat} (h:o.op=.box e (.tmp t)) {cs:Array Value} (ht:a.tmps.getD t undef=.agg cs):(execOp a.eval o).run P w=.ok (.value (.pointer (some ⟨w.heap.size,0,none⟩))) (w.alloc (.cells cs e)):=by
 simp[execOp,h,Act.eval,ht,Instr.box,newVar,newRow,Value.cells]
theorem none_rel {T:Tok} {w:World} (hgs:2≤w.heap.size) (hheld:∀ b o,T.hold b=some o→w.heap[b]? = some o):@Rel T TZ (ZAh 2 []) (zAe 2 0 .none []) w:=
 mkRel ZAa (by decide) hgs rfl (by show 2+1+0≤65536; decide) (fun b hb=>by cases hb) (fun z hz=>by cases hz) (fun i b hb=>by simp at hb) hheld
theorem none_ro:∀ q,q<(zAe 2 0 .none []).next→((zAe 2 0 .none []).get q).wr=false:=
 zCc (by decide) (by show 2+1+0≤65536; decide) rfl fun b hb=>by cases hb
theorem vsrel_nilS {T:Tok} {φ:Phi} {vs:List Value} (h:@zAa T φ [.nilslice,.nilslice,.nilslice] vs):vs=[nilS,nilS,nilS]:=by
 cases h with
 |cons h1 h=>
 cases h with
 |cons h2 h=>
 cases h with
 |cons h3 h=>
 cases h
 cases h1
 cases h2
 cases h3
 rfl
attribute [local irreducible] O97 O53_1 O53_2 O53_3 O53_14 in
theorem new_ok {w:World} (hgs:2≤w.heap.size):Ends TZ 97 #[] w fun cv w'=>∃ (p:Nat) (x:Img),cv=.pointer (some ⟨p,0,none⟩)∧ZAb w w'∧w.heap.size≤p∧ZAx w' p [ptrV x,.int .i64 0]∧x.1≠p∧w.heap.size≤x.1∧zAi (zAk w') x [nilS,nilS,nilS]:=by
 right
 refine ⟨ZBx fn97_is fn97_name fn97_body,?_⟩
 refine calls_of_wp fn97_is fn97_body ?_
 have ha0:zBc 5 { tmps:=(#[]:Array Value)++Array.replicate (fn97.ntmps-(#[]:Array Value).size) undef,defers:=[] }:=⟨by simp[fn97_nt],rfl⟩
 generalize ({ tmps:=(#[]:Array Value)++Array.replicate (fn97.ntmps-(#[]:Array Value).size) undef,defers:=[] }:Act)=a0 at ha0
 let T:Tok:=tokB noH (fun _=>nilS) (fun _=>rfl)
 have hr:@Rel T TZ (ZAh 2 []) (zAe 2 0 .none []) w:=none_rel hgs fun b o h=>by cases h
 have hrun:=new_run
 unfold newRun at hrun
 split at hrun
 rotate_left
 · cases hrun
 rename_i m1 hq1
 split at hrun
 rotate_left
 · cases hrun
 rename_i qn on y m hq2
 simp only[Bool.and_eq_true,beq_true] at hrun
 obtain ⟨⟨rfl,ey⟩,hfr,habs⟩:=hrun
 have ey':=@ZAf tok0 2 _ _ ey
 subst ey'
 rw[b97_is]
 refine wp_seq ?_
 refine @one_ok TZ T KO (ko_ok T rfl) (ko_draw T rfl) 5 R97_0 g97_0 _ _ _ _ _ _ hq1 _ w a0 _ hr ha0 (by decide) (fun q hq=>by cases hq) (fun _ φ1 a1 w1 hst1 ha1 hv1=>?_) (fun i h=>by cases h) (fun h=>by cases h)
 show Code.wp TZ (.seq (.region 1 O97 false) .ret) _ a1 w1
 refine wp_seq (wp_region ?_)
 rw[o97_s]
 have hrange:List.range 5=List.range' 0 (O97.toList.take 3).length++[3,4]:=by rw[o97_l]; rfl
 rw[hrange]
 refine @ZCc TZ T KO (ko_ok T rfl) 5 O97 _ 0 (O97.toList.take 3) [3,4] (by rw[List.drop_zero,o97_l]) g97_1 _ _ _ _ _ hq2 φ1 w1 a1 (@Step.rel T TZ _ _ _ _ _ _ hst1) ha1 (by decide) (fun q hq=>by cases hq) (fun φ2 a2 w2 hst2 ha2 hv2=>?_)
 have hst:=@Step.trans T TZ _ _ _ _ _ _ _ _ _ hst1 hst2
 have hleft:=ZAb.of hst none_ro
 obtain ⟨r1,r2⟩:=idRel (T:=T) rfl ZAa (@Step.rel T TZ _ _ _ _ _ _ hst) habs
 have ht:=tells_new (by decide) hst none_ro hfr habs
 obtain ⟨b1,b2⟩:=ZAu (G:=2) (by decide) (l:=[.cells true [.nilslice,.nilslice,.nilslice]]) (by show 2+1+1≤65536; decide) (i:=0) rfl
 obtain ⟨x,vs,h1,h2,h3⟩:=ZBd ht r1 b1 b2
 have h3':=vsrel_nilS h3
 subst h3'
 have h1':φ2 qn=some x:=h1
 have hx2:w.heap.size≤x.1∧x.1<w2.heap.size:=by
  obtain ⟨c,el,fz,g1,_⟩:=h2
  unfold upd at g1
  split at g1
  · cases g1
  · exact ⟨by omega,@ZAq tok0 w2 x.1 _ g1⟩
 have g3:a2.tmps.getD 3 undef=.agg #[ptrV x,.int .i64 0]:=by
  cases hv2 with
  |cons v3 _=>
   have v3':@VRel T φ2 (.agg [.ptr qn 0,.int .i64 0]) (a2.tmps.getD 3 undef):=v3
   generalize a2.tmps.getD 3 undef=c at v3'
   cases v3' with
   |agg _ cs hcs hcc=>
    generalize hcl:cs.toList=L at hcs
    cases hcs with
    |cons q1 hcs=>
    cases hcs with
    |cons q2 hcs=>
    cases hcs
    have e1:=ptr_is q1 h1'
    cases q2
    rw[show cs=#[ptrV x,.int .i64 0] by rw[← Array.toList_inj,hcl,e1]]
 refine wpOps_eff o97_3 (fun o ho=>run_box ho g3) ?_
 have ha3:=zCu ha2 (some 4) (.pointer (some ⟨w2.heap.size,0,none⟩))
 refine ZCs o97_4 (fun o ho=>run_as ho) ?_
 rw[zBm ha2 (by decide)]
 have ha4:=zCu ha3 (some 0) (.pointer (some ⟨w2.heap.size,0,none⟩))
 have e0:=zBm ha3 (by decide:0<5) (.pointer (some ⟨w2.heap.size,0,none⟩))
 generalize (a2.put (some 4) (.pointer (some ⟨w2.heap.size,0,none⟩))).put (some 0) (.pointer (some ⟨w2.heap.size,0,none⟩))=a4 at ha4 e0
 show Code.wp TZ .ret _ a4 _
 refine wp_ret ⟨ha4.defers,_,results_one fn97_res _ _,?_⟩
 rw[e0]
 have hold:∀ b,b<w2.heap.size→(w2.alloc (.cells #[ptrV x,.int .i64 0] 188)).heap[b]? = w2.heap[b]?:=fun b hb=>by
  show (w2.heap.push _)[b]? = _
  rw[Array.getElem?_push,if_neg (by omega)]
 refine ⟨_,rfl,w2.heap.size,x,rfl,⟨fun b hb=>?_,?_,hleft.2.2.1,hleft.2.2.2.1,hleft.2.2.2.2⟩,hleft.2.1,⟨#[ptrV x,.int .i64 0],188,(0,0),?_,rfl,fun v hv=>?_,fun i _ h=>?_⟩,by omega,hx2.1,?_⟩
 · rw[hold b (Nat.lt_of_lt_of_le hb hleft.2.1)]; exact hleft.1 b hb
 · refine Nat.le_trans hleft.2.1 ?_
   show _≤(w2.heap.push _).size
   simp
 · show (w2.heap.push _)[w2.heap.size]? = _
   simp
 · simp only[List.mem_cons,List.not_mem_nil,or_false] at hv
   rcases hv with rfl|rfl<;>rfl
 · exact absurd h.2 (by show ¬ i<0; omega)
 · refine h2.at_ ?_
   unfold upd zAk
   rw[if_neg (by omega)]
   exact hold _ hx2.2
end Go.AM
namespace Go.AM
open Go.Proofs
def heapX (p:Nat) (w:World):Heap:=fun b=>if b=p then none else w.heap[b]?
theorem heapX_at {p b:Nat} {w:World} (h:b≠p):heapX p w b=w.heap[b]?:=if_neg h
theorem leaf_nil {H:Heap} {x:Img} (h:zAi H x [nilS,nilS,nilS]):LeafAt H x nilS (kvs []):=⟨nilS,h,.inl ⟨rfl,rfl,rfl⟩⟩
theorem results_two {fn:Func} {s t:Nat} (h:fn.results.toList=[.tmp s,.tmp t]) (tmps:Array Value) (w:World):(results fn tmps).run TZ w=.ok (.tuple #[tmps.getD s undef,tmps.getD t undef]) w:=by
 rw[@results_eq tok0]
 have e:fn.results=#[.tmp s,.tmp t]:=by rw[← Array.toList_inj]; exact h
 rw[e]
 simp[resOne]
section
attribute [local irreducible] O53_3 O53_14 O53_2 O53_1 BD53 LB53 X53_15 R53_0
variable {sw:Bool} {rows:List RowD} {p:Nat} {box:Img} {H0:Heap} {w1:World} {b:Option Addr} {cap:Nat}
end
end Go.AM
namespace Go.AM
open Go.Proofs
def keyVals (name cols prim sl:Value) (j:Nat):Value:=if j=0 then name else if j=1 then cols else if j=2 then prim else sl
theorem keyVals_cell {name cols prim sl:Value} (h1:name.oneCell'=true) (h2:cols.oneCell'=true) (h3:prim.oneCell'=true) (h4:sl.oneCell'=true) (j:Nat):(keyVals name cols prim sl j).oneCell'=true:=by
 unfold keyVals
 repeat' split
 all_goals first
  |exact h1
  |exact h2
  |exact h3
  |exact h4
theorem args_two {fn:Func} {x y:Value}:((#[x,y]:Array Value)++Array.replicate (fn.ntmps-(#[x,y]:Array Value).size) undef).getD 0 undef=x∧((#[x,y]:Array Value)++Array.replicate (fn.ntmps-(#[x,y]:Array Value).size) undef).getD 1 undef=y:=by
 constructor
 · rw[Array.getD_eq_getD_getElem?,Array.getElem?_append_left (by simp)]; rfl
 · rw[Array.getD_eq_getD_getElem?,Array.getElem?_append_left (by simp)]; rfl
theorem then_exit {id:Nat} {X:Act→World→Prop} {Q:Exit→Act→World→Prop} {a:Act} {w:World} (h:Q .normal a w):Exit.then X (Exit.inBlock id Q) (.exit id) a w:=by
 show Exit.inBlock id Q (.exit id) a w
 exact inBlock_here h
end Go.AM
namespace Go.AM
open Go.Proofs
def appNs:List Nat→List Nat→List Nat
 | [],y=>y
 |x::l,y=>x::appNs l y
end Go.AM
namespace Go.AM
open Go.Proofs
theorem zAv {b0:Blk} {l:List Blk} (hb:2+1+l.length≤65536) {i:Nat} {b:Blk} (hi:l[i]? = some b):3+i<(zAe 2 0 b0 l).next∧(zAe 2 0 b0 l).get (3+i)=b:=by
 have hn:(zAe 2 0 b0 l).next=2+1+l.length:=ZAt l _
 have hlt:=zAf hi
 refine ⟨by rw[hn]; omega,?_⟩
 rw[zAu (by decide) hb (by omega),if_pos ⟨by omega,by omega⟩,show 3+i-(2+1)=i by omega,hi]
 rfl
theorem zBu {φ:Phi} {m:Mem} {w:World}:Tells φ m (zAk w) w:=fun _ _ _ _=>rfl
theorem zAi.part {H:Heap} {b o s:Nat} {vs:List Value} (h:zAi H (b,o,s) vs) {i k:Nat} (hk:i+k≤vs.length):zAi H (b,o+i,s) ((vs.drop i).take k):=by
 obtain ⟨c,el,fz,h1,h2,h3,h4⟩:=h
 have hl:((vs.drop i).take k).length=k:=by rw[List.length_take,List.length_drop]; omega
 refine ⟨c,el,fz,h1,h2,by rw[hl]; show o+i+k≤c.size; have:o+vs.length≤c.size:=h3; omega,?_⟩
 rw[hl]
 show (c.toList.drop (o+i)).take k=_
 rw[← h4]
 show _=(((c.toList.drop o).take vs.length).drop i).take k
 rw[List.drop_take,List.take_take,List.drop_drop,Nat.min_eq_left (by omega)]
theorem pair_at {vs:List Value} {i:Nat} {x y:Value} (h1:vs[2*i]? = some x) (h2:vs[2*i+1]? = some y):(vs.drop (2*i)).take 2=[x,y]:=by
 have l1:=zAf h2
 have e1:vs.drop (2*i)=x::y::vs.drop (2*i+2):=by
  rw[List.drop_eq_getElem_cons (by omega),List.drop_eq_getElem_cons l1]
  rw[List.getElem?_eq_getElem (by omega)] at h1
  rw[List.getElem?_eq_getElem l1] at h2
  cases h1
  cases h2
  rfl
 rw[e1]; rfl
end Go.AM
namespace Go.AM
open Go.Proofs
section
variable [Tok] {P:Program} {φ:Phi} {m:Mem} {w:World}
theorem Rel.move (h:Rel P φ m w) (hh:∀ b,Tok.hold b=none) {w':World} (hs:w.heap.size≤w'.heap.size) (hl:∀ p b o s,p<m.next→(m.get p).live=true→φ p=some (b,o,s)→w'.heap[b]? = w.heap[b]?):Rel P φ m w':=by
 refine ⟨h.bound,h.dom,fun p b o s hp hn=>Nat.lt_of_lt_of_le (h.heap p b o s hp hn) hs,h.handle,h.nohandle,h.glob,fun p hp=>?_,h.inj,h.clean,fun b o hb=>(by rw[hh b] at hb; cases hb),h.apart,h.mode⟩
 cases hlv:(m.get p).live with
 |false=>rw[Blk.dead hlv]; trivial
 |true=>exact (h.blk p hp).congr fun b o s hφ=>hl p b o s hp hlv hφ
theorem Rel.also (h:Rel P φ m w) (hh:∀ b,Tok.hold b=none) {x':Blk} {nb no ns:Nat} (hn:m.next<65536) (hro:x'.wr=false) (hlt:nb<w.heap.size) (hw:∀ q b o s,q<m.next→(m.get q).wr=true→φ q=some (b,o,s)→b≠nb)
 (hx:BRel (fun q=>if q=m.next then some (nb,no,ns) else φ q) w m.next x'):Rel P (fun q=>if q=m.next then some (nb,no,ns) else φ q) ⟨m.next+1,putT m.next x' m.t⟩ w:=by
 have ext:Ext' φ (fun q=>if q=m.next then some (nb,no,ns) else φ q):=by
  intro q y hq
  have:=h.dom q y hq
  show (if q=m.next then _ else _)=_
  rw[if_neg (by omega)]; exact hq
 have get:∀ q,q<65536→(⟨m.next+1,putT m.next x' m.t⟩:Mem).get q=if q=m.next then x' else m.get q:=fun q hq=>ZBw m.next q x' m.t hn hq
 have hh1:=h.dom _ _ h.handle
 have hold:∀ q,q<m.next→(⟨m.next+1,putT m.next x' m.t⟩:Mem).get q=m.get q:=fun q hq=>by
  rw[get q (by omega),if_neg (by omega)]
 refine ⟨hn,?_,?_,ext _ _ h.handle,?_,?_,?_,?_,fun q h1 h2=>by
  change m.next+1≤q at h1
  rw[get q h2,if_neg (by omega)]; exact h.clean q (by omega) h2,fun b o hb=>(by rw[hh b] at hb; cases hb),fun q b' o' s' _ _ _=>hh b',fun hs=>by rw[hold 0 h.pos]; exact h.mode hs⟩
 · intro q y hq
   show q<m.next+1
   by_cases e:q=m.next
   · omega
   · have hq':φ q=some y:=by simpa[e] using hq
     have:=h.dom q y hq'; omega
 · intro q b' o'' s' hq hne
   by_cases e:q=m.next
   · simp[e] at hq; omega
   · have hq':φ q=some (b',o'',s'):=by simpa[e] using hq
     exact h.heap q b' o'' s' hq' hne
 · rw[hold _ hh1]; exact h.nohandle
 · intro g hg
   obtain ⟨sz,hsz⟩:=h.glob g hg
   exact ⟨sz,ext _ _ hsz⟩
 · intro q hq
   change q<m.next+1 at hq
   by_cases e:q=m.next
   · subst e; rw[get _ (by omega),if_pos rfl]; exact hx
   · have hq':q<m.next:=by omega
     rw[hold q hq']
     exact (h.blk q hq').mono ext
 · intro q q' b' o1 s1 o2 s2 hq hq' hqne hwr hl h1 h2
   change q<m.next+1 at hq
   change q'<m.next+1 at hq'
   by_cases e1:q=m.next
   · subst e1
     rw[get _ (by omega),if_pos rfl,hro] at hwr; cases hwr
   · simp[e1] at h1
     rw[hold q (by omega)] at hwr
     by_cases e2:q'=m.next
     · simp[e2] at h2
       exact hw q b' o1 s1 (by omega) hwr h1 h2.1.symm
     · simp[e2] at h2
       rw[hold q' (by omega)] at hl
       exact h.inj q q' b' o1 s1 o2 s2 (by omega) (by omega) hqne hwr hl h1 h2
end
theorem addL_snoc:∀ (l:List Blk) (b:Blk) (m:Mem),addL (l++[b]) m=⟨(addL l m).next+1,putT (addL l m).next b (addL l m).t⟩
 | [],b,m=>rfl
 |x::l,b,m=>addL_snoc l b _
theorem mkMem_snoc (b0:Blk) (l:List Blk) (b:Blk):zAe 2 0 b0 (l++[b])=⟨(zAe 2 0 b0 l).next+1,putT (zAe 2 0 b0 l).next b (zAe 2 0 b0 l).t⟩:=addL_snoc l b _
end Go.AM
namespace Go.AM
open Go.Proofs
theorem ZBm:∀ a b:List Blk,ZCa a b=a++b
 | [],_=>rfl
 |x::a,b=>by show x::ZCa a b=_; rw[ZBm a b]; rfl
structure OwnAt (φ:Phi) (m:Mem) (own:Nat→Nat) (tag:Nat):Prop where
 live:∀ p b o s,p<m.next→(m.get p).live=true→φ p=some (b,o,s)→own b=0∨own b=tag
 wr:∀ p b o s,p<m.next→(m.get p).wr=true→φ p=some (b,o,s)→own b=tag
def extO (own:Nat→Nat) (w:World) (tag:Nat):Nat→Nat:=fun b=>if b<w.heap.size then own b else tag
theorem extO_lt {own:Nat→Nat} {w:World} {tag b:Nat} (h:b<w.heap.size):extO own w tag b=own b:=if_pos h
theorem extO_ge {own:Nat→Nat} {w:World} {tag b:Nat} (h:w.heap.size≤b):extO own w tag b=tag:=if_neg (by omega)
def LeftO (own:Nat→Nat) (tag:Nat) (w w':World):Prop:=(∀ b,b<w.heap.size→own b≠tag→w'.heap[b]? = w.heap[b]?)∧w.heap.size≤w'.heap.size∧w'.os=w.os∧w'.output=w.output∧w'.tape=w.tape
theorem own_step {T:Tok} {φ φ':Phi} {m m':Mem} {w w':World} {own:Nat→Nat} {tag:Nat} (hst:@Step T TZ φ m w φ' m' w') (h:OwnAt φ m own tag):OwnAt φ' m' (extO own w tag) tag∧LeftO own tag w w':=by
 refine ⟨⟨fun p b o s hp hl hφ=>?_,fun p b o s hp hl hφ=>?_⟩,fun b hb hne=>@Step.frame T TZ _ _ _ _ _ _ hst b hb fun q o s hq hw hφ=>hne (h.wr q b o s hq hw hφ),@Step.size T TZ _ _ _ _ _ _ hst,@Step.os T TZ _ _ _ _ _ _ hst,@Step.out T TZ _ _ _ _ _ _ hst,@Step.tape T TZ _ _ _ _ _ _ hst⟩
 · rcases Nat.lt_or_ge b w.heap.size with hb|hb
   · rw[extO_lt hb]
     rcases Nat.lt_or_ge p m.next with hp'|hp'
     · rcases @Step.fresh T TZ _ _ _ _ _ _ hst p _ hφ with h1|h1
       · exact h.live p b o s hp' (@Step.live T TZ _ _ _ _ _ _ hst p hp' hl) h1
       · omega
     · obtain ⟨q,o',s',g1,g2,g3⟩:=@Step.img T TZ _ _ _ _ _ _ hst p b o s hp' hp hl hφ hb
       exact .inr (h.wr q b o' s' g1 g2 g3)
   · exact .inr (extO_ge hb)
 · rcases Nat.lt_or_ge b w.heap.size with hb|hb
   · rw[extO_lt hb]
     rcases Nat.lt_or_ge p m.next with hp'|hp'
     · rcases @Step.fresh T TZ _ _ _ _ _ _ hst p _ hφ with h1|h1
       · exact h.wr p b o s hp' (@Step.wr T TZ _ _ _ _ _ _ hst p hp' hl) h1
       · omega
     · obtain ⟨q,o',s',g1,g2,g3⟩:=@Step.img T TZ _ _ _ _ _ _ hst p b o s hp' hp (Blk.live_of_wr hl) hφ hb
       exact h.wr q b o' s' g1 g2 g3
   · exact extO_ge hb
theorem own_abs {T:Tok} {φ:Phi} {m:Mem} {w:World} {own:Nat→Nat} {tag:Nat} (hr:@Rel T TZ φ m w) (h:OwnAt φ m own tag) (h0:own 0=0) {σ:Map} (hG:σ.G=2) {l:List Blk} (habs:zAp σ 0 b00 l m=true):OwnAt (zAj σ φ) (zAe 2 0 b00 l) own tag:=by
 refine ⟨fun p b o s hp hl hφ=>?_,fun p b o s hp hl hφ=>?_⟩
 · have hc:=habs
   unfold zAp at hc
   simp only[Bool.and_eq_true,zAd] at hc
   obtain ⟨⟨⟨c1,c2⟩,c3,c4⟩,c5,c6⟩:=hc
   obtain ⟨hlen,hblk⟩:=chkL_ok c6
   rw[zBd] at c2
   have hn:(zAe 2 0 b00 l).next=2+1+l.length:=ZAt l _
   rw[hn] at hp
   have c1':0<2:=by decide
   rw[zAu c1' (by rw[hlen,← hG]; omega) (by rw[← hG,hlen] at hp; omega)] at hl
   unfold zAj at hφ
   split at hφ
   rotate_left
   · cases hφ
   rename_i htop
   split at hl
   · rename_i h1
     have h3:p-(2+1)<l.length:=by omega
     have h4:p-(2+1)<σ.ns.length:=by omega
     have e3:=List.getElem?_eq_getElem h3
     have e4:=List.getElem?_eq_getElem h4
     rw[e3] at hl
     have hnm:σ.nm p=σ.ns[p-(2+1)]:=by
      rw[nm_high (by rw[hG]; omega)]
      have:p-(σ.G+1)=p-(2+1):=by rw[hG]
      rw[this,e4]; rfl
     obtain ⟨_,g2,g3⟩:=hblk _ _ _ e3 e4
     rw[hnm] at hφ
     refine h.live _ b o s g2 ?_ hφ
     generalize m.get (σ.ns[p-(2+1)])=bl at g3
     generalize l[p-(2+1)]=t at g3 hl
     cases t<;>cases bl<;>first|rfl|(cases g3; done)|(cases hl; done)
   · split at hl
     · rename_i hp0
       subst hp0
       have hnm:σ.nm 0=0:=rfl
       rw[hnm] at hφ
       obtain ⟨sz,hg⟩:=@Rel.glob T TZ _ _ _ hr 0 (by rw[ZAa]; decide)
       rw[hg] at hφ
       cases hφ
       exact .inl h0
     · cases hl
 · have hp':p<(zAe σ.G 0 b00 l).next:=by rw[hG]; exact hp
   have hl':((zAe σ.G 0 b00 l).get p).wr=true:=by rw[hG]; exact hl
   obtain ⟨t1,t2,t3⟩:=absMem_wr habs hp' hl'
   unfold zAj at hφ
   rw[if_pos t1] at hφ
   exact h.wr _ b o s t2 t3 hφ
end Go.AM
namespace Go.AM
open Go.Proofs
def entW (A:Nat):List Nat→List MEnt
 | []=>[]
 |j::l=>⟨.sym .u64 j,.slice (Nat.add A j) 0 2 2 false 3,j⟩::entW A l
def valW (j:Nat):List AVal:=[.int .i64 2,.opq (Nat.add 1000 (Nat.mul 2 j)),.str [],.int .i64 2,.opq (Nat.add 1001 (Nat.mul 2 j)),.str []]
def valsWL:List Nat→List Blk
 | []=>[]
 |j::l=>.cells true (valW j)::valsWL l
def idW:List Nat→List AVal
 | []=>[]
 |j::l=>.sym .u64 j::idW l
def rowW (A:Nat):List Nat→List AVal
 | []=>[]
 |j::l=>.sym .u64 j::.slice (Nat.add A j) 0 2 2 false 3::rowW A l
def slW (A n z:Nat):AVal:=
 match n with
 |0=>.nilslice
 |k+1=>.slice A 0 (Nat.succ k) (Nat.succ k) false z
def swG (k5 k8 k9:Blk) (l:List Blk):List Blk:=
 .cells true [.slice 4 0 1 1 false 3,.slice 5 0 1 1 false 4] ::
 .cells true [.str [116],.slice 6 0 2 2 false 3,.slice 7 0 2 2 false 4] ::
 k5 ::
 .cells true [.str [97],.int .i64 2,.bool false,.str [98],.int .i64 2,.bool false] ::
 .cells true [.any,.slice 10 0 2 2 false 1,.bool false,.any,.any,.slice 11 0 1 1 false 1,.bool false,.any] ::
 k8::k9 ::
 .cells true [.int .i64 (.ofNat 0),.int .i64 (.ofNat 1)] ::
 .cells true [.int .i64 (.ofNat 1)]::l
def anyK:Blk:=.cells false [.any,.any,.any,.any]
def keepK (mp ids nx ky:AVal):Blk:=.cells false [mp,ids,nx,ky]
def treesK:Blk:=.cells true [.opq 1,.opq 2]
def tailW (A n:Nat) (l:List Blk):List Blk:=
 match n with
 |0=>l
 |k+1=>.cells true (idW (natL (Nat.succ k) 0))::ZCa (valsWL (natL (Nat.succ k) 0)) l
def swL (n:Nat) (l:List Blk):List Blk:=swG (keepK (.map 8) (slW 12 n 1) (.nx .u64 0) (.slice 9 0 2 2 false 1)) (.map (entW 13 (natL n 0)) n) treesK (tailW 12 n l)
def swZ (n:Nat) (l:List Blk):List Blk:=swG anyK (.map (entW 13 (natL n 0)) n) treesK (tailW 12 n l)
def swR (m:Nat):List Blk:=swG anyK .none .none (match m with
 |0=>[]
 |k+1=>.cells true (rowW 13 (natL (Nat.succ k) 0))::valsWL (natL (Nat.succ k) 0))
def treeNW:Nat→List AVal
 |0=>[]
 |1=>[.opq 1]
 |_=>[.opq 1,.opq 2]
def ktrees (q:Nat):Blk:=
 match q with
 |0=>.none
 |k+1=>.cells false (treeNW (Nat.succ k))
def kqTail (m:Nat) (l:List Blk):List Blk:=
 match m with
 |0=>l
 |k+1=>.cells true (rowW 17 (natL (Nat.succ k) 0))::.cells true (idW (natL (Nat.succ k) 0))::ZCa (valsWL (natL (Nat.succ k) 0)) (ZCa (valsWL (natL (Nat.succ k) 0)) l)
def shapeA:List AVal:=[.str [116],.slice 6 0 2 2 false 3,.slice 7 0 2 2 false 4]
def kqL (m q:Nat) (l:List Blk):List Blk:=
 swG anyK (.map (entW (Nat.add 17 m) (natL m 0)) m) (ktrees q) (keepK (.map 8) (slW 16 m 1) (.nx .u64 0) (slW 9 q 1)::anyK::.cells true shapeA::kqTail m l)
def ns2 (m:Mem):Nat→List AVal→List Nat
 |0,_=>[]
 |n+1,l=>onL [] (fun _ l1=>onL [] (fun x l2=>nmOf x::ns2 m n l2) l1) l
def blkNs (m:Mem) (b:Nat):List AVal:=match m.get b with
 | .cells _ cs=>cs
 |_=>[]
def swNs3 (m:Mem) (a0 tb kp ky mp tr:Nat) (l:List Nat):List Nat:=
 a0::tb::kp::nmOf (zBq m tb 1)::ky::mp::tr::nmOf (zBq m ky 1)::nmOf (zBq m ky 5)::l
def swNs2 (m:Mem) (a0 tb kp mp tr:Nat) (l:List Nat):List Nat:=swNs3 m a0 tb kp (nmOf (zBq m tb 2)) mp tr l
def swNs (m:Mem) (a0 mp tr:Nat) (l:List Nat):List Nat:=swNs2 m a0 (nmOf (zBq m a0 0)) (nmOf (zBq m a0 1)) mp tr l
def rowNs (m:Mem) (rb n:Nat) (l:List Nat):List Nat:=
 match n with
 |0=>l
 |k+1=>rb::appNs (ns2 m (Nat.succ k) (blkNs m rb)) l
def kqNs (m:Mem) (a0 t1 t3 t6 t8:Nat) (k q:Nat):List Nat:=
 swNs m a0 (nmOf (zBq m t8 0)) (zAc 9 (nmOf (zBq m t8 3)) (Nat.beq q 0)) (t8::t6::t3::(match k with
  |0=>[]
  |j+1=>t1::nmOf (zBq m t8 1)::appNs (ns2 m (Nat.succ j) (blkNs m t1)) (entNs m (nmOf (zBq m t8 0)))))
def symsW:Nat→Nat→List AVal
 |0,_=>[]
 |n+1,j=>.sym .u64 j::symsW n (Nat.succ j)
def mapW (q m:Nat) (ns:List Nat):Map:=⟨2,ns,symsW m 0,fun d=>.nx .u64 d,fun i=>zAc (.opq i) .bad (or (Nat.ble i q) (Nat.ble 1000 i))⟩
def kqRegs (m q:Nat):List (Nat×AVal):=[(1,slW 15 m 2),(3,.ptr 14 0),(6,.ptr 13 0),(8,.ptr 12 0),(95,.slice 7 0 2 2 false 4),(96,.int .i64 (.ofNat 2)),(97,.int .i64 (.ofNat q))]
def kqVals (m q:Nat):List AVal:=[slW 15 m 2,.ptr 14 0,.ptr 13 0,.ptr 12 0,.slice 7 0 2 2 false 4,.int .i64 (.ofNat 2),.int .i64 (.ofNat q)]
def kqTs:List Nat:=[1,3,6,8,95,96,97]
def k0Regs (m:Nat):List (Nat×AVal):=[(0,.agg shapeA),(1,slW 12 m 2),(2,.nx .u64 0)]
def k0End (m:Nat) (vs:List AVal) (mf:Mem):Bool:=
 match vs with
  | [x1,x3,x6,x8,_,_,_]=>and (zipB (absN (mapW 0 m (kqNs mf 3 (nmOf x1) (nmOf x3) (nmOf x6) (nmOf x8) m 0)) 4) (kqVals m 0) vs) (zAp (mapW 0 m (kqNs mf 3 (nmOf x1) (nmOf x3) (nmOf x6) (nmOf x8) m 0)) 0 b00 (kqL m 0 []) mf)
  |_=>false
def k0Run (P:Program) (K:KH) (cs:List Code) (R19:Code) (m:Nat):Bool:=
 match zBv P 124 K cs ⟨true,fun _=>false,false⟩ (k0Regs m) [1,3,6,8] (zAe 2 0 b00 (swR m)) with
 | .ok (.tuple v1) m1=>(match zBv P 124 K [R19] ⟨true,fun _=>false,false⟩ (List.zip [1,3,6,8] v1) kqTs m1 with
  | .ok (.tuple vs) mf=>k0End m vs mf
  |_=>false)
 |_=>false
def keyQ (q:Nat):AVal:=.agg [.any,.slice (Nat.add 10 q) 0 (Nat.sub 2 q) (Nat.sub 2 q) false 1,.bool false,.any]
def k1Run (P:Program) (K:KH) (H S:Code) (R21:Code) (O22:Array Oper) (m q:Nat):Bool:=
 match zBv P 124 K [H,S] ⟨true,fun _=>false,false⟩ (kqRegs m q) kqTs (zAe 2 0 b00 (kqL m q [])) with
 | .ok (.tuple v1) m1=>(match zBv P 124 K [R21] ⟨true,fun _=>false,false⟩ (List.zip kqTs v1) (15::kqTs) m1 with
  | .ok (.tuple v2) m2=>(match zCg P 124 K O22 (zBl 2 O22.toList) (List.zip (15::kqTs) v2) (102::103::kqTs) m2 with
   | .ok (.tuple v3) m3=>and (zipB (absN (mapW q m (kqNs m3 3 15 14 13 12 m q)) 4) (keyQ q::slW 15 m 2::kqVals m q) v3) (zAp (mapW q m (kqNs m3 3 15 14 13 12 m q)) 0 b00 (kqL m q []) m3)
   |_=>false)
  |_=>false)
 |_=>false
def k2End (m q:Nat) (v4:List AVal) (m4:Mem):Bool:=
 and (zipB (absN (mapW (Nat.succ q) m (kqNs m4 3 15 14 13 12 m (Nat.succ q))) 4) (kqVals m (Nat.succ q)) v4) (zAp (mapW (Nat.succ q) m (kqNs m4 3 15 14 13 12 m (Nat.succ q))) 0 b00 (kqL m (Nat.succ q) []) m4)
def k2Run (P:Program) (K:KH) (O22:Array Oper) (S23 R25 R26:Code) (m q:Nat):Bool:=
 match zCg P 124 K O22 (ZAe 3 O22.toList) ((104,.tuple [.opq (Nat.succ q),.niliface])::kqRegs m q) (16::17::kqTs) (zAe 2 0 b00 (kqL m q [])) with
 | .ok (.tuple v1) m1=>(match zBv P 124 K [S23] ⟨true,fun _=>false,false⟩ (List.zip (16::17::kqTs) v1) (16::kqTs) m1 with
  | .ok (.tuple v2) m2=>(match oneRun P 124 K R25 ⟨true,fun _=>false,false⟩ (List.zip (16::kqTs) v2) kqTs m2 with
   | .ok (.tuple v3) m3=>(match oneRun P 124 K R26 ⟨true,fun _=>false,false⟩ (List.zip kqTs v3) kqTs m3 with
    | .ok (.tuple v4) m4=>k2End m q v4 m4
    |_=>false)
   |_=>false)
  |_=>false)
 |_=>false
def retRun (P:Program) (nt:Nat) (K:KH) (X:Code) (res:List ResultVar) (l:List (Nat×AVal)) (m:Mem):R:=
 (cCode P nt X).run K (fun _ _ _=>.fail 87) (fun r m=>(cResults P res).run r m fun vs=>.ok (oneOf vs) m) (fun _ _=>.fail 87) (pickR l) m
def keptV (m:Nat):AVal:=.tuple [.agg [.map 8,slW 12 m 1,.nx .u64 0,.slice 9 0 2 2 false 1],.niliface]
def kzNs (m:Nat):List Nat:=3::4::5::6::7::8::9::10::11::(match m with
 |0=>[]
 |k+1=>16::natL (Nat.succ k) (Nat.add 17 m))
def k3Run (P:Program) (K:KH) (H S X:Code) (res:List ResultVar) (m:Nat):Bool:=
 match zBv P 124 K [H,S] ⟨false,fun i=>Nat.beq i 4,false⟩ (kqRegs m 2) kqTs (zAe 2 0 b00 (kqL m 2 [])) with
 | .ok (.tuple v1) m1=>(match retRun P 124 K X res (List.zip kqTs v1) m1 with
  | .ok v m2=>and (absN (mapW 2 m (kzNs m)) 4 (keptV m) v) (zAp (mapW 2 m (kzNs m)) 0 b00 (swZ m []) m2)
  |_=>false)
 |_=>false
end Go.AM
namespace Go.AM
open Go.Proofs
def B23:Code:=bodyOf TZ 23
def S23_19:Code:=sl (sr (sr (sr (sr (sr B23)))))
def CS23:List Code:=[sl B23,sl (sr B23),sl (sr (sr B23)),sl (sr (sr (sr B23))),sl (sr (sr (sr (sr B23))))]
def LB23:Code:=loopOf' (sr S23_19)
def H23:Code:=sl LB23
def C23:Code:=sl (sr LB23)
def R23_26:Code:=sr (sr (sr LB23))
def BD23:Code:=blkOf' (sl (sr (sr LB23)))
def R23_21:Code:=sl BD23
def ZBg:Array Oper:=opsOf (sl (sr BD23))
def S23_23:Code:=sl (sr (sr BD23))
def R23_25:Code:=sr (sr (sr BD23))
def X23:Code:=sr (sr (sr (sr (sr (sr B23)))))
def res23:List ResultVar:=match TZ.funcs[23]? with
 |some fn=>fn.results.toList
 |none=>[]
def kRow (m:Nat):Bool:=and (k0Run TZ K0 CS23 (sl S23_19) m)
 (and (and (k1Run TZ K0 H23 C23 R23_21 ZBg m 0) (k2Run TZ K0 ZBg S23_23 R23_25 R23_26 m 0)) (and (and (k1Run TZ K0 H23 C23 R23_21 ZBg m 1) (k2Run TZ K0 ZBg S23_23 R23_25 R23_26 m 1)) (k3Run TZ K0 H23 C23 X23 res23 m)))
end Go.AM
namespace Go.AM
variable {P:Program}
inductive OrdW where
 |lt
 |eq
 |gt
def ordI:OrdW→Int
 | .lt=>-1
 | .eq=>0
 | .gt=>1
def leafW (e p j:Nat):OrdW:=zAc .lt (zAc .eq .gt (and (Nat.beq e 1) (Nat.beq j p))) (Nat.ble (Nat.succ j) p)
def kidW (e c p i:Nat):OrdW:=zAc .gt (zAc (zAc .eq .lt (or (Nat.beq e 2) (and (Nat.beq e 1) (and (Nat.beq p 0) (Nat.ble 1 c))))) .lt (Nat.beq i c)) (Nat.ble (Nat.succ c) i)
def tokW (e m c s s2 p i:Nat):Option OrdW:=
 zAc none (zAc (some (leafW e p (Nat.sub i 100))) (zAc none (zAc (some .gt) (zAc none (zAc (some (kidW e c p (Nat.sub i 400))) none (Nat.ble (Nat.succ i) (Nat.add 400 m))) (Nat.ble (Nat.succ i) 400))
  (Nat.ble (Nat.succ i) (Nat.add 300 s2))) (Nat.ble (Nat.succ i) 300)) (Nat.ble (Nat.succ i) (Nat.add 100 s))) (Nat.ble (Nat.succ i) 100)
theorem tokW_ok {e m c s s2 p i:Nat} {t:OrdW} (h:tokW e m c s s2 p i=some t):(∃ j,j<s∧i=100+j∧t=leafW e p j)∨(∃ j,j<s2∧i=300+j∧t=.gt)∨∃ j,j<m∧i=400+j∧t=kidW e c p j:=by
 unfold tokW at h
 simp only[zAn,zAd] at h
 split at h
 · cases h
 rename_i h1
 split at h
 · rename_i h2
   have h2':i+1≤100+s:=h2
   have e1:=Option.some.inj h
   exact .inl ⟨i-100,by omega,by omega,e1.symm⟩
 split at h
 · cases h
 rename_i h3
 split at h
 · rename_i h4
   have h4':i+1≤300+s2:=h4
   have e1:=Option.some.inj h
   exact .inr (.inl ⟨i-300,by omega,by omega,e1.symm⟩)
 split at h
 · cases h
 rename_i h5
 split at h
 · rename_i h6
   have h6':i+1≤400+m:=h6
   have e1:=Option.some.inj h
   exact .inr (.inr ⟨i-400,by omega,by omega,e1.symm⟩)
 · cases h
def ordR (mem:Mem):Option OrdW→R
 |some .lt=>.ok (.int .i64 (.negSucc 0)) mem
 |some .eq=>.ok (.int .i64 (.ofNat 0)) mem
 |some .gt=>.ok (.int .i64 (.ofNat 1)) mem
 |none=>.fail 180
def cmpW (e m c s s2 p:Nat) (args:List AVal) (mem:Mem):R:=
 arg2 args fun a b=>match a,b with
  | .opq i,.opq 0=>ordR mem (tokW e m c s s2 p i)
  |_,_=>.fail 181
def CmpW (T:Tok) (e m c s s2 p:Nat):Prop:=∀ i t,tokW e m c s s2 p i=some t→∃ bs kb,zAy T.hold (T.val i) bs∧zAy T.hold (T.val 0) kb∧lexC bs kb=ordI t
theorem cmpW_ok {T:Tok} {e m c s s2 p:Nat} (hT:CmpW T e m c s s2 p) {f:FuncId} (hf:ExtHere P f .compare):@ZCr T P f (cmpW e m c s s2 p):=by
 intro args mem v m' h φ w cargs hr hv
 obtain ⟨a,b,rfl,h1⟩:=arg2_ok h
 split at h1
 · rename_i i
   obtain ⟨t,ht,h2⟩:∃ t,tokW e m c s s2 p i=some t∧R.ok (.int .i64 (ordI t)) mem=.ok v m':=by
    cases ht:tokW e m c s s2 p i with
    |none=>rw[ht] at h1; cases h1
    |some t=>rw[ht] at h1; refine ⟨t,rfl,?_⟩; cases t<;>exact h1
   obtain ⟨bs,kb,g1,g2,g3⟩:=hT i t ht
   obtain ⟨x,y,hc,hx,hy⟩:=vs2 hv
   have hcargs:cargs=#[x,y]:=hc
   subst hcargs
   cases hx
   cases hy
   have hH:∀ b o,T.hold b=some o→zAk w b=some o:=fun b o hb=>@Rel.held T P φ mem w hr b o hb
   have e1:=bytesOf_at (P:=P) (g1.mono hH)
   have e2:=bytesOf_at (P:=P) (g2.mono hH)
   obtain ⟨hne,fn,k1,k2,k3,k4,k5⟩:=hf
   left
   cases h2
   refine ⟨goInt (lexC bs kb),w,?_,φ,@Step.refl T P φ mem w hr,?_⟩
   · rw[run_callFunc_extern k1 k2 k3 k4 k5]
     show (((Extern.Bytes.bytesOf (T.val i) >>= fun a=>Extern.Bytes.bytesOf (T.val 0) >>= fun b=>pure (goInt (Extern.BytealgCompare.cmp a b))):Sem Value).run P w).andThen _=_
     rw[Sem.run_bind,e1,Result.andThen_ok,Sem.run_bind,e2,Result.andThen_ok,Sem.run_pure,cmp_lex]
     rfl
   · rw[g3]
     have e3:goInt (ordI t)=.int .i64 (ordI t):=by cases t<;>rfl
     rw[e3]; exact @VRel.int T φ .i64 (ordI t)
 · cases h1
def nextArgsW (G:Nat) (ab:Bool):List AVal:=[.ptr (Nat.succ G) 0,.opq 0,.bool ab]
def upW (e p:Nat):Nat:=zAc (Nat.succ p) p (Nat.beq e 1)
def nextLW (K:KH) (f G e s p:Nat):Bool:=pairChk (Nat.add 100 (upW e p)) (Nat.add 200 (upW e p)) (Nat.ble (Nat.succ (upW e p)) s) (K f (nextArgsW G (Nat.beq e 1)) (zAe G 0 .none (treeL G s)))
def nextNW (K:KH) (f G e m c s s2 p:Nat):Bool:=
 pairChk (zAc (Nat.add 100 (upW e p)) 300 (Nat.ble (Nat.succ (upW e p)) s)) (zAc (Nat.add 200 (upW e p)) 350 (Nat.ble (Nat.succ (upW e p)) s)) (or (Nat.ble (Nat.succ (upW e p)) s) (Nat.ble 1 s2)) (K f (nextArgsW G (Nat.beq e 1)) (zAe G 0 .none (treeN G m c s s2)))
def SideW (e p:Nat) (kb:List UInt8) (es:List Ent):Prop:=∀ j x,es[j]? = some x→lexC x.kb kb=ordI (leafW e p j)
def FirstsW (H:Heap) (e c p:Nat) (kb:List UInt8) (ls:List Kid):Prop:=∀ i L,ls[i]? = some L→∃ fb,zAy H L.f fb∧lexC fb kb=ordI (kidW e c p i)
theorem cmpLW {H:Heap} {k v f0:Value} {kb:List UInt8} {es es2:List Ent} {fs pls:Nat→Value} {e p:Nat} (hc:∀ j,(ZAd k v f0 es es2 fs pls j).oneCell'=true) (hk:zAy H k kb) (he:∀ x,x∈es→EntOk H x) (hS:SideW e p kb es) (hs:es.length≤16) :
 CmpW (tokB H (ZAd k v f0 es es2 fs pls) hc) e 0 0 es.length 0 p:=by
 intro i t ht
 rcases tokW_ok ht with ⟨j,hj,rfl,rfl⟩|⟨j,hj,_⟩|⟨j,hj,_⟩
 · have hge:=List.getElem?_eq_getElem hj
   have hval:ZAd k v f0 es es2 fs pls (100+j)=es[j].k:=by
    rw[tv_key (by omega)]
    unfold keyV
    rw[hge]; rfl
   refine ⟨es[j].kb,kb,?_,hk,hS j _ hge⟩
   show zAy H (ZAd k v f0 es es2 fs pls (100+j)) _
   rw[hval]; exact (he _ (List.getElem_mem hj)).1
 · omega
 · omega
theorem cmpNW {H:Heap} {k v f0:Value} {kb:List UInt8} {es es2:List Ent} {ls:List Kid} {e c p:Nat} (hc:∀ j,(ZAd k v f0 es es2 (fsOf ls) (plsOf ls) j).oneCell'=true) (hk:zAy H k kb) (he:∀ x,x∈es→EntOk H x) (he2:∀ x,x∈es2→EntOk H x)
 (hS:SideW e p kb es) (hS2:∀ x,x∈es2→lexC x.kb kb=1) (hs:es.length≤16) (hs2:es2.length≤16) (hF:FirstsW H e c p kb ls) (hm:ls.length≤90):CmpW (nTok H k v f0 es es2 ls hc) e ls.length c es.length es2.length p:=by
 intro i t ht
 show ∃ bs kb',zAy H (ZAd k v f0 es es2 (fsOf ls) (plsOf ls) i) bs∧zAy H k kb'∧_
 rcases tokW_ok ht with ⟨j,hj,rfl,rfl⟩|⟨j,hj,rfl,rfl⟩|⟨j,hj,rfl,rfl⟩
 · have hge:=List.getElem?_eq_getElem hj
   refine ⟨es[j].kb,kb,?_,hk,hS j _ hge⟩
   rw[tv_key (by omega)]
   unfold keyV
   rw[hge]; exact (he _ (List.getElem_mem hj)).1
 · have hge:=List.getElem?_eq_getElem hj
   refine ⟨es2[j].kb,kb,?_,hk,hS2 _ (List.getElem_mem hj)⟩
   rw[tv_key2 (by omega)]
   unfold keyV
   rw[hge]; exact (he2 _ (List.getElem_mem hj)).1
 · have hge:=List.getElem?_eq_getElem hj
   obtain ⟨fb,g1,g2⟩:=hF j _ hge
   refine ⟨fb,kb,?_,hk,g2⟩
   rw[tv_f (by omega)]
   unfold fsOf
   rw[hge]; exact g1
end Go.AM
namespace Go.AM
variable {P:Program}
theorem upW_le {e p n:Nat} (h:p≤n):upW e p≤n+1:=by
 unfold upW
 rw[zAn]
 split
 · show p+1≤n+1; omega
 · omega
theorem nextLW_ok {K:KH} {f G:Nat} (hG:P.globals.size=G) (h0:0<G) (hGb:G≤60000) {w:World} (hgs:G≤w.heap.size) {H:Heap} (hH:In H w) {x:Img} {f0 k:Value} {kb:List UInt8} {es:List Ent} {e p:Nat} (hK:∀ T:Tok,T.strong=true→CmpW T e 0 0 es.length 0 p→@zBb T P K)
 (hrun:nextLW K f G e es.length p=true) (hs:es.length≤16) (hp:p≤es.length) (hf0:f0.oneCell'=true) (hl:LeafAt H x f0 (kvs es)) (he:∀ x,x∈es→EntOk H x) (hk:zAy H k kb) (hS:SideW e p kb es) :
 Ends P f #[ptrV x,k,.bool (Nat.beq e 1)] w fun cv w'=>ZAb w w'∧Told cv es[upW e p]?:=by
 have hcell:=tokVals_cell (v:=nilS) (es2:=[]) (fs:=fun _=>nilS) (pls:=fun _=>nilS) hk.cell rfl hf0 he (fun e h=>by cases h) (fun _=>rfl) (fun _=>rfl)
 let T:Tok:=tokB H (ZAd k nilS f0 es [] (fun _=>nilS) (fun _=>nilS)) hcell
 have tkv:∀ j q,(kvs es)[j]? = some q→T.val (100+j)=q.1∧T.val (200+j)=q.2:=by
  intro j q hj
  obtain ⟨g1,g2⟩:=kvs_get hj
  have:=zAf hj
  rw[ZBe] at this
  exact ⟨(tv_key (by omega)).trans g1,(tv_val (by omega)).trans g2⟩
 have hup:=upW_le (e:=e) hp
 have hCmp:CmpW T e 0 0 es.length 0 p:=cmpLW hcell hk he hS hs
 obtain ⟨φ,hr,hI,hφ⟩:=relL (T:=T) hG h0 hGb hgs hH hl rfl tkv hH
 rw[ZBe] at hr
 have hargs:@zAa T φ (nextArgsW G (Nat.beq e 1)) (#[ptrV x,k,.bool (Nat.beq e 1)]:Array Value).toList:=
  @zAa.cons T φ _ _ _ _ (@VRel.ptr T φ (G+1) 0 x.1 x.2.1 x.2.2 hφ) (@zAa.cons T φ _ _ _ _ (@VRel.opq T φ 0) (@zAa.cons T φ _ _ _ _ (@VRel.bool T φ (Nat.beq e 1)) (@zAa.nil T φ)))
 have hro:∀ q,q<(zAe G 0 .none (treeL G es.length)).next→((zAe G 0 .none (treeL G es.length)).get q).wr=false:=by
  have hlen:G+1+(treeL G es.length).length≤65536:=by
   have:(treeL G es.length).length≤2:=by
    unfold treeL
    cases es.length with
    |zero=>exact Nat.le_succ 1
    |succ n=>exact Nat.le_refl 2
   omega
  refine zCc h0 hlen rfl fun b hb=>?_
  unfold treeL at hb
  rcases List.mem_cons.1 hb with rfl|hb
  · rfl
  · cases hes:es.length with
    |zero=>rw[hes] at hb; cases hb
    |succ n=>
     rw[hes] at hb
     rcases List.mem_cons.1 hb with rfl|hb
     · rfl
     · cases hb
 unfold nextLW at hrun
 generalize hq:K f (nextArgsW G (Nat.beq e 1)) (zAe G 0 .none (treeL G es.length))=q at hrun
 cases q with
 |fail c=>cases hrun
 |ok av m=>
  refine (hK T rfl hCmp f _ _ _ m hq φ w _ hr hargs).mono fun cv w' ⟨φ',hst,hvc⟩=>⟨ZAb.of hst hro,?_⟩
  refine pairChk_ok hrun rfl hvc (fun hok=>?_) (fun hok=>?_)
  · have hlt:upW e p<es.length:=zAd.1 hok
    have hge:=List.getElem?_eq_getElem hlt
    refine ⟨_,hge,(tv_key (by omega)).trans ?_,(tv_val (by omega)).trans ?_⟩
    · unfold keyV; rw[hge]; rfl
    · unfold valV; rw[hge]; rfl
  · have:=zBj.1 hok
    exact List.getElem?_eq_none (by omega)
theorem nextNW_ok {K:KH} {f G:Nat} (hG:P.globals.size=G) (h0:0<G) (hGb:G≤60000) {w:World} (hgs:G≤w.heap.size) {H:Heap} (hH:In H w) {x:Img} {f0 k:Value} {kb:List UInt8} {ls:List Kid} (h:TreeN H x f0 ls) {c:Nat} {Kc:Kid} (hc:ls[c]? = some Kc) {e p:Nat} {es2:List Ent}
 (h2:es2=[]∨∃ K2,ls[c+1]? = some K2∧K2.es=es2∧0<es2.length)
 (hK:∀ T:Tok,T.strong=true→CmpW T e ls.length c Kc.es.length es2.length p→@zBb T P K) (hrun:nextNW K f G e ls.length c Kc.es.length es2.length p=true) (hs0:0<Kc.es.length) (hs:Kc.es.length≤16) (hs2:es2.length≤16) (hp:p≤Kc.es.length) (hm:ls.length≤90) (hf0:f0.oneCell'=true)
 (hk:zAy H k kb) (hS:SideW e p kb Kc.es) (hS2:∀ x,x∈es2→lexC x.kb kb=1) (hF:FirstsW H e c p kb ls) :
 Ends P f #[ptrV x,k,.bool (Nat.beq e 1)] w fun cv w'=>ZAb w w'∧Told cv (if upW e p<Kc.es.length then Kc.es[upW e p]? else es2[0]?):=by
 have hkids:∀ L,L∈ls→KidAt H L:=by obtain ⟨_,_,_,h3⟩:=h; exact h3
 have hKc:=hkids Kc (List.mem_of_getElem? hc)
 have hes2:∀ x,x∈es2→EntOk H x:=by
  rcases h2 with rfl|⟨K2,g1,rfl,_⟩
  · intro e h; cases h
  · exact (hkids K2 (List.mem_of_getElem? g1)).2.2.1
 have hcell:=tokVals_cell (v:=nilS) (fs:=fsOf ls) (pls:=plsOf ls) hk.cell rfl hf0 hKc.2.2.1 hes2 (fun i=>(fsOf_cell hkids i).1) (fun i=>(fsOf_cell hkids i).2)
 obtain ⟨q1,q2,q3,q4⟩:=nTok_facts (H:=H) hcell hs hs2 hm
 have hup:=upW_le (e:=e) hp
 have hCmp:=cmpNW (c:=c) (p:=p) hcell hk hKc.2.2.1 hes2 hS hS2 hs hs2 hF hm
 have hkey:∀ j,j<100→(nTok H k nilS f0 Kc.es es2 ls hcell).val (100+j)=keyV Kc.es j∧(nTok H k nilS f0 Kc.es es2 ls hcell).val (200+j)=valV Kc.es j:=fun j hj=>⟨tv_key hj,tv_val hj⟩
 have hkey2:(nTok H k nilS f0 Kc.es es2 ls hcell).val 300=keyV es2 0∧(nTok H k nilS f0 Kc.es es2 ls hcell).val 350=valV es2 0:=⟨tv_key2 (j:=0) (by omega),tv_val2 (j:=0) (by omega)⟩
 generalize hT:nTok H k nilS f0 Kc.es es2 ls hcell=T at q1 q2 q3 q4 hCmp hkey hkey2
 have hst:T.strong=true:=by rw[← hT]; rfl
 have t0:T.val 0=k:=by rw[← hT]; rfl
 have hheld:∀ b o,T.hold b=some o→w.heap[b]? = some o:=by rw[← hT]; exact hH
 obtain ⟨φ,hr,hI,hφ⟩:=relN (T:=T) hG h0 hGb hgs hH h hc hs0 (s2:=es2.length) (by
  rcases h2 with rfl|⟨K2,g1,rfl,g3⟩
  · exact .inl rfl
  · exact .inr ⟨K2,g1,rfl,g3,q4⟩) hm q1 q2 q3 hheld
 have hargs:@zAa T φ (nextArgsW G (Nat.beq e 1)) (#[ptrV x,k,.bool (Nat.beq e 1)]:Array Value).toList:=
  @zAa.cons T φ _ _ _ _ (@VRel.ptr T φ (G+1) 0 x.1 x.2.1 x.2.2 hφ) (@zAa.cons T φ _ _ _ _ (by rw[← t0]; exact @VRel.opq T φ 0) (@zAa.cons T φ _ _ _ _ (@VRel.bool T φ (Nat.beq e 1)) (@zAa.nil T φ)))
 have hro:∀ q,q<(zAe G 0 .none (treeN G ls.length c Kc.es.length es2.length)).next→((zAe G 0 .none (treeN G ls.length c Kc.es.length es2.length)).get q).wr=false:=by
  have hone:(oneOr es2.length (.cells true (rowT 300 350 (natL es2.length 0)))).length≤1:=by cases es2.length<;>simp[oneOr]
  exact zCc h0 (by rw[treeN_len]; omega) rfl treeN_ro
 unfold nextNW at hrun
 generalize hq:K f (nextArgsW G (Nat.beq e 1)) (zAe G 0 .none (treeN G ls.length c Kc.es.length es2.length))=q at hrun
 cases q with
 |fail c=>cases hrun
 |ok av m=>
  refine (hK T hst hCmp f _ _ _ m hq φ w _ hr hargs).mono fun cv w' ⟨φ',hstp,hvc⟩=>⟨ZAb.of hstp hro,?_⟩
  by_cases hlt:upW e p<Kc.es.length
  · rw[zAd.2 hlt] at hrun
    rw[if_pos hlt]
    have hge:=List.getElem?_eq_getElem hlt
    obtain ⟨e1,e2⟩:=hkey (upW e p) (by omega)
    refine pairChk_ok hrun rfl hvc (fun _=>⟨_,hge,e1.trans ?_,e2.trans ?_⟩) (fun h=>by cases h)
    · unfold keyV; rw[hge]; rfl
    · unfold valV; rw[hge]; rfl
  · rw[zBj.2 (by omega)] at hrun
    rw[if_neg hlt]
    refine pairChk_ok hrun rfl hvc (fun hok=>?_) (fun hok=>?_)
    · have h1:0<es2.length:=by
       have:Nat.ble 1 es2.length=true:=by simpa using hok
       exact zAd.1 this
      have hge:=List.getElem?_eq_getElem h1
      refine ⟨_,hge,hkey2.1.trans ?_,hkey2.2.trans ?_⟩
      · unfold keyV; rw[hge]; rfl
      · unfold valV; rw[hge]; rfl
    · have:Nat.ble 1 es2.length=false:=by simpa using hok
      have:=zBj.1 this
      exact List.getElem?_eq_none (by omega)
end Go.AM
