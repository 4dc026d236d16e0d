/- For TableWays: TyAll BtX10 BtX11 BtX12 BtV1 BtV2 BtV3 BtR1 BtR2 BtV4 BtV5 BtR3 BtR4 BtSh BtR5 BtR6. -/
import Derived.Test.YtggjomdndfacgaaGreatDoorWyI0
import Derived.Test.YtggjomdndfacgaaGreatDoorWyI1
import Derived.Test.YtggjomdndfacgaaGreatDoorWyD0
import Derived.Test.YtggjomdndfacgaaGreatDoorWyD1
import Derived.Test.YtggjomdndfacgaaGreatDoorWyD2
import Derived.Test.YtggjomdndfacgaaGreatDoorWyD3
import Derived.Test.YtggjomdndfacgaaGreatDoorWyD4
import Derived.Test.YtggjomdndfacgaaGreatDoorWyD5
import Derived.Test.YtggjomdndfacgaaGreatDoorWyD6
import Derived.Test.YtggjomdndfacgaaGreatDoorWyD7
import Derived.Test.YtggjomdndfacgaaGreatDoorWyX0
import Derived.Test.YtggjomdndfacgaaGreatDoorWyX1
import Derived.Test.YtggjomdndfacgaaGreatDoorWm6
import Derived.Test.YtggjomdndfacgaaGreatDoorWm3
import Derived.OrdersHeld
import Derived.Shelf.SlSortCmp.NoneTotal
import Derived.Shelf.SlicesE.Equal
set_option linter.unusedSectionVars false
set_option linter.unusedVariables false
set_option linter.unusedSimpArgs false
noncomputable section
namespace Go.AM
set_option maxRecDepth 100000
theorem wiRow_all:∀ n,n<50→wiRow n=true:=fun _ h=>pick1 (zAb wiRow_0 (zAb wiRow_1 (zAb wiRow_2 (zAb wiRow_3 (zAb wiRow_4 (zAb wiRow_5 (zAb wiRow_6 (zAb wiRow_7 (zAb wiRow_8 (zAb wiRow_9 (zAb wiRow_10 (zAb wiRow_11 (wiRow_12))))))))))))) 50 (by kernel_rfl) h
theorem wdC_all:∀ n,n<50→∀ c,c<7→wdC n c=true:=fun _ h _ h2=>pick2 (zAb wdC_0 (zAb wdC_1 (zAb wdC_2 (zAb wdC_3 (zAb wdC_4 (zAb wdC_5 (zAb wdC_6 (zAb wdC_7 (zAb wdC_8 (zAb wdC_9 (zAb wdC_10 (zAb wdC_11 (zAb wdC_12 (zAb wdC_13 (zAb wdC_14 (zAb wdC_15 (zAb wdC_16 (zAb wdC_17 (zAb wdC_18 (zAb wdC_19 (zAb wdC_20 (zAb wdC_21 (zAb wdC_22 (zAb wdC_23 (zAb wdC_24 (zAb wdC_25 (zAb wdC_26 (zAb wdC_27 (zAb wdC_28 (zAb wdC_29 (zAb wdC_30 (zAb wdC_31 (zAb wdC_32 (zAb wdC_33 (zAb wdC_34 (zAb wdC_35 (zAb wdC_36 (zAb wdC_37 (zAb wdC_38 (zAb wdC_39 (zAb wdC_40 (zAb wdC_41 (zAb wdC_42 (zAb wdC_43 (zAb wdC_44 (zAb wdC_45 (zAb wdC_46 (zAb wdC_47 (zAb wdC_48 (zAb wdC_49 (zAb wdC_50 (zAb wdC_51 (zAb wdC_52 (zAb wdC_53 (zAb wdC_54 (zAb wdC_55 (zAb wdC_56 (zAb wdC_57 (zAb wdC_58 (zAb wdC_59 (zAb wdC_60 (zAb wdC_61 (zAb wdC_62 (zAb wdC_63 (zAb wdC_64 (zAb wdC_65 (zAb wdC_66 (zAb wdC_67 (zAb wdC_68 (zAb wdC_69 (zAb wdC_70 (zAb wdC_71 (zAb wdC_72 (zAb wdC_73 (zAb wdC_74 (zAb wdC_75 (zAb wdC_76 (zAb wdC_77 (zAb wdC_78 (wdC_79)))))))))))))))))))))))))))))))))))))))))))))))))))))))))))))))))))))))))))))))) 50 7 (fun _ _=>true) (by kernel_rfl) h h2 rfl
theorem wxC_all:∀ n,n<50→∀ c,c<7→wxC n c=true:=fun _ h _ h2=>pick2 (zAb wxC_0 (zAb wxC_1 (zAb wxC_2 (zAb wxC_3 (zAb wxC_4 (zAb wxC_5 (zAb wxC_6 (zAb wxC_7 (zAb wxC_8 (zAb wxC_9 (zAb wxC_10 (zAb wxC_11 (zAb wxC_12 (zAb wxC_13 (zAb wxC_14 (zAb wxC_15 (zAb wxC_16 (zAb wxC_17 (wxC_18))))))))))))))))))) 50 7 (fun _ _=>true) (by kernel_rfl) h h2 rfl
end Go.AM
namespace Go.AM
open Go.Proofs
theorem ZBb (L:List Blk):(zAe 2 0 b00 L).next=3+L.length:=ZAt L _
theorem add_ro {T:Tok} (hh:∀ b,T.hold b=none) {φ:Phi} {L:List Blk} {w:World} {own:Nat→Nat} {tag:Nat} (hr:@Rel T TZ φ (zAe 2 0 b00 L) w) (ho:OwnAt φ (zAe 2 0 b00 L) own tag) (hlen:3+L.length<65000) {xv:Img} {vs:List Value} {cs:List AVal} (hc:zAi (zAk w) xv vs)
 (hv:∀ φ',(∀ q x,φ q=some x→φ' q=some x)→@zAa T φ' cs vs) (hcell:∀ v,v∈cs→v.isCell=true) (hvo:own xv.1=0) (htag:tag≠0) :
 ∃ φ',(∀ q x,φ q=some x→φ' q=some x)∧φ' (3+L.length)=some xv∧@Rel T TZ φ' (zAe 2 0 b00 (L++[.cells true cs])) w∧OwnAt φ' (zAe 2 0 b00 (L++[.cells true cs])) own tag:=by
 have hnx:=ZBb L
 have hxl:xv.1<w.heap.size:=hc.lt (fun b o h=>h)
 have hext:∀ q x,φ q=some x→(fun q=>if q=(zAe 2 0 b00 L).next then some (xv.1,xv.2.1,xv.2.2) else φ q) q=some x:=fun q x hq=>by
  show (if q=(zAe 2 0 b00 L).next then _ else _)=_
  have:=@Rel.dom T TZ _ _ _ hr q x hq
  rw[if_neg (by omega)]; exact hq
 refine ⟨fun q=>if q=(zAe 2 0 b00 L).next then some (xv.1,xv.2.1,xv.2.2) else φ q,hext,by rw[hnx]; exact if_pos rfl,?_,?_⟩
 · rw[mkMem_snoc]
   exact @Rel.also T TZ _ _ _ hr hh _ _ _ _ (by rw[hnx]; omega) rfl hxl (fun q b o s hq hw hφ e=>by
    have:=ho.wr q b o s hq hw hφ
    rw[e,hvo] at this
    exact htag this.symm) (zBy (fun b o h=>h) hc (if_pos rfl) (hv _ hext) hcell)
 · rw[mkMem_snoc]
   have get:∀ q,q<(zAe 2 0 b00 L).next+1→(⟨(zAe 2 0 b00 L).next+1,putT (zAe 2 0 b00 L).next (.cells true cs) (zAe 2 0 b00 L).t⟩:Mem).get q=if q=(zAe 2 0 b00 L).next then .cells true cs else (zAe 2 0 b00 L).get q:=fun q hq=>ZBw _ q _ _ (by rw[hnx]; omega) (by rw[hnx] at hq; omega)
   refine ⟨fun p b o s hp hlv hφ=>?_,fun p b o s hp hlv hφ=>?_⟩
   · by_cases e:p=(zAe 2 0 b00 L).next
     · simp[e] at hφ
       rw[← hφ.1]; exact .inl hvo
     · rw[get p hp,if_neg e] at hlv
       have hφ':φ p=some (b,o,s):=by simpa[e] using hφ
       have hp':p<(zAe 2 0 b00 L).next+1:=hp
       exact ho.live p b o s (by omega) hlv hφ'
   · by_cases e:p=(zAe 2 0 b00 L).next
     · rw[get p hp,if_pos e] at hlv; cases hlv
     · rw[get p hp,if_neg e] at hlv
       have hφ':φ p=some (b,o,s):=by simpa[e] using hφ
       have hp':p<(zAe 2 0 b00 L).next+1:=hp
       exact ho.wr p b o s (by omega) hlv hφ'
def StoW (rows:List RowW) (next:Nat) (hok:ZBp rows next) (sp:Value) (tag:Nat) (own:Nat→Nat) (w:World):Prop:=
 ∃ (φ:Phi) (x3:Img) (g:Nat→Value),φ 3=some x3∧sp=ptrV x3∧OwnAt φ (zAe 2 0 b00 (swL rows.length [])) own tag∧(∀ j,(g j).oneCell'=true)∧(∀ i,i<2→TreeAt (Nat.beq i 0) rows own w (g (i+1)))∧
  ∀ f hf,(∀ j,j≤2→f j=g j)→@Rel (tokX rows next hok f hf) TZ φ (zAe 2 0 b00 (swL rows.length [])) w
theorem swL_app (n:Nat) (l:List Blk):swL n l=swL n []++l:=by
 unfold swL swG tailW
 cases n with
 |zero=>rfl
 |succ k=>
  show _::_::_::_::_::_::_::_::_::_::ZCa _ l=(_::_::_::_::_::_::_::_::_::_::ZCa _ [])++l
  rw[ZBm,ZBm,List.append_nil]; rfl
theorem swL_len (n:Nat):3+(swL n []).length=mAtW n:=by
 unfold mAtW
 rw[zAn]
 cases n with
 |zero=>rfl
 |succ k=>
  rw[if_neg (by simp)]
  show 3+((ZCa (valsWL (natL (k+1) 0)) []).length+1+1+1+1+1+1+1+1+1+1)=13+(k+1)
  rw[ZBm,List.append_nil,valsWL_len]; omega
theorem mAtW_le {n:Nat} (h:n≤60):mAtW n<100:=by
 unfold mAtW
 rw[zAn]
 split
 · decide
 · show 13+n<100
   omega
theorem StoW.move {rows:List RowW} {next:Nat} {hok:ZBp rows next} {sp:Value} {tag t2:Nat} {own own':Nat→Nat} {w w':World} (h:StoW rows next hok sp tag own w) (hg:OGo t2 own w own' w') (h2:t2≠tag) (h0:t2≠0):StoW rows next hok sp tag own' w':=by
 obtain ⟨φ,x3,g,h1,h3,h4,h5,h6,h7⟩:=h
 refine ⟨φ,x3,g,h1,h3,?_,h5,fun i hi=>(h6 i hi).go h0 hg,fun f hf hff=>?_⟩
 · exact own_keep (h7 g h5 fun _ _=>rfl) h4 hg.2
 · have hr:=h7 f hf hff
   refine @Rel.move (tokX rows next hok f hf) TZ _ _ _ hr (fun _=>rfl) w' hg.size fun p b o s hp hlv hφ=>hg.1.1 b ?_ ?_
   · exact @Rel.heap (tokX rows next hok f hf) TZ _ _ _ hr p b o s hφ (fun e=>by
      have:=@Rel.nohandle (tokX rows next hok f hf) TZ _ _ _ hr
      rw[e,this] at hlv; cases hlv)
   · rcases h4.live p b o s hp hlv hφ with h|h<;>rw[h]
     · exact h0.symm
     · exact h2.symm
theorem bw_is:BW=seqsC CSW (.seq (.region 28 OW28 false) XW10):=by kernel_rfl
theorem gW:CSW.all (ZBh TZ.globals.size)=true:=by kernel_rfl
theorem gW_x:ZBh TZ.globals.size XW10=true:=by kernel_rfl
theorem gW_b:ZBh TZ.globals.size BW=true:=by kernel_rfl
theorem gW_a:(zBl 10 OW28.toList).all (ZBo TZ.globals.size)=true:=by kernel_rfl
theorem gW_c:(ZAe 11 OW28.toList).all (ZBo TZ.globals.size)=true:=by kernel_rfl
theorem lW_a:(zBl 10 OW28.toList).length=10:=by kernel_rfl
theorem lW_c:(ZAe 11 OW28.toList).length=6:=by kernel_rfl
theorem tW_a:(OW28.toList.drop 0).take (zBl 10 OW28.toList).length=zBl 10 OW28.toList:=by kernel_rfl
theorem tW_c:(OW28.toList.drop 11).take (ZAe 11 OW28.toList).length=ZAe 11 OW28.toList:=by kernel_rfl
theorem sW:OW28.size=17:=by kernel_rfl
theorem oW_10:CallAt OW28 10 112 23 [109,110,111]:=callAtB (by kernel_rfl) (by kernel_rfl) (by kernel_rfl) (by kernel_rfl)
def fnW:Func:=(TZ.funcs[10]?).getD default
theorem fnW_is:TZ.funcs[10]? = some fnW:=by kernel_rfl
theorem fnW_body:fnW.body=some BW:=by kernel_rfl
theorem fnW_nt:fnW.ntmps=125:=by kernel_rfl
theorem fnW_res:fnW.results.toList=resW:=by kernel_rfl
theorem fnW_name:fnW.name≠ "runtime.NumGoroutine":=by
 have h:(fnW.name == "runtime.NumGoroutine")=false:=by kernel_rfl
 intro e
 rw[e] at h; simp at h
theorem we0:weRow 0=true:=by kernel_rfl
theorem we_at {n:Nat} (h:n≤50):weRun TZ K0 OW28 XW10 resW n=true:=by
 cases n with
 |zero=>exact we0
 |succ k=>
  have:=wiRow_all k (by omega)
  unfold wiRow at this
  rw[Bool.and_eq_true] at this
  exact this.2
theorem wi_at {n:Nat} (h:n≤49):wiRun TZ K0 CSW OW28 n=true:=by
 have:=wiRow_all n (by omega)
 unfold wiRow at this
 rw[Bool.and_eq_true] at this
 exact this.1
theorem wd_at {k p:Nat} (hk:k≤49) (hp:p≤k):wdRun TZ K0 CSW OW28 k p=true:=by
 have h:=zBw (wdC_all k (by omega) (p / 8) (by omega)) (p % 8) (by omega)
 have e:Nat.add (Nat.mul 8 (p / 8)) (p % 8)=p:=by show 8*(p / 8)+p % 8=p; omega
 rw[e,Bool.or_eq_true] at h
 rcases h with h|h
 · rw[zAd] at h; omega
 · exact h
theorem wx_at {n p:Nat} (hn:n≤49) (hp:p≤n):toPRun n p=true∧wxRun TZ K0 BW resW n p=true:=by
 have h:=zBw (wxC_all n (by omega) (p / 8) (by omega)) (p % 8) (by omega)
 have e:Nat.add (Nat.mul 8 (p / 8)) (p % 8)=p:=by show 8*(p / 8)+p % 8=p; omega
 rw[e,Bool.or_eq_true] at h
 rcases h with h|h
 · rw[zAd] at h; omega
 · unfold wxAt at h
   rwa [Bool.and_eq_true] at h
def WroteW (rows:List RowW) (next:Nat) (hok:ZBp rows next) (sp:Value) (own:Nat→Nat) (tag:Nat) (w:World) (c:Value) (w':World):Prop:=
 c=.nilIface∧∃ own',OGo tag own w own' w'∧own' 0=0∧StoW rows next hok sp tag own' w'
theorem swNs9_3 (n:Nat):∃ l',swNs9 n=3::l':=⟨_,rfl⟩
section
variable {rows:List RowW} {next:Nat} {hok:ZBp rows next} {own:Nat→Nat} {tag:Nat} {x3:Img} {w0:World}
attribute [local irreducible] OW28 XW10 CSW in
theorem write_tail (htag:tag≠0) (h00:own 0=0) {f:Nat→Value} {hf:∀ j,(f j).oneCell'=true} {φ:Phi} (hr:@Rel (tokX rows next hok f hf) TZ φ (zAe 2 0 b00 (swR rows.length)) w0) (hO:OwnAt φ (zAe 2 0 b00 (swR rows.length)) own tag) (h3:φ 3=some x3)
 {a:Act} (ha:zBc 125 a) (hv:@zAa (tokX rows next hok f hf) φ (askW rows.length) (zCe [109,110,111,0,1] a)) {Q:Exit→Act→World→Prop}
 (hQ:∀ a' w' c,a'.defers=[]→(results fnW a'.tmps).run TZ w'=.ok c w'→WroteW rows next hok (ptrV x3) own tag w0 c w'→Q .ret a' w'):wpOps TZ OW28 (Exit.then (XW10.wp TZ Q) Q) [10,11,12,13,14,15,16] a w0:=by
 obtain ⟨v109,v110,v111,v0,v1⟩:@VRel (tokX rows next hok f hf) φ (.agg shapeA) (a.tmps.getD 109 undef)∧@VRel (tokX rows next hok f hf) φ (slW 12 rows.length 2) (a.tmps.getD 110 undef)∧@VRel (tokX rows next hok f hf) φ (.nx .u64 0) (a.tmps.getD 111 undef)∧a.tmps.getD 0 undef=ptrV x3∧a.tmps.getD 1 undef=.int .i64 0:=by
  refine ⟨ZAr hv (i:=0) (t:=109) rfl rfl,ZAr hv (i:=1) (t:=110) rfl rfl,ZAr hv (i:=2) (t:=111) rfl rfl,ptr_is (ZAr hv (i:=3) (t:=0) rfl rfl) h3,intE (ZAr hv (i:=4) (t:=1) rfl rfl)⟩
 refine wpOps_call oW_10 (R':=KeptPost rows next hok own tag x3 w0) ?_ fun c w1 hpost=>?_
 · exact kept_ok htag h00 hr hO h3 v109 v110 v111
 obtain ⟨φ1,own1,g,e1,e2,e3,e4,e5,e6,e7⟩:=hpost
 have hg1:OGo tag own w0 own1 w1:=⟨e1,e2⟩
 obtain ⟨r1,vc⟩:=e7 g e5 (fun _ _=>rfl)
 have hgs0:=rel_gs hr
 let T:Tok:=tokX rows next hok g e5
 have hrun:=we_at hok.len
 unfold weRun at hrun
 split at hrun
 rotate_left
 · cases hrun
 rename_i v2 m2 hr2
 split at hrun
 rotate_left
 · cases hrun
 rename_i v3 m3 hr3
 rw[Bool.and_eq_true] at hrun
 obtain ⟨hz,habs⟩:=hrun
 have ha1:=zCu ha (some 112) c
 have hrange:[11,12,13,14,15,16]=List.range' 11 (ZAe 11 OW28.toList).length++[]:=by rw[lW_c]; rfl
 rw[hrange]
 refine @ZCc TZ T K0 (@ZBt T) 125 OW28 _ 11 (ZAe 11 OW28.toList) [] tW_c gW_c _ _ _ _ _ hr2 φ1 w1 _ r1 ha1 (by decide) (fun q hq=>?_) (fun φ2 a2 w2 st2 ha2 hv2=>?_)
 · simp only[List.mem_cons,List.not_mem_nil,or_false] at hq
   rcases hq with rfl|rfl|rfl
   · refine ⟨(by decide:0<4096),?_⟩
     show @VRel T φ1 (.ptr 3 0) ((a.put (some 112) c).tmps.getD 0 undef)
     rw[ZAi ha (by decide) _ (by decide),v0]
     exact @VRel.ptr T φ1 3 0 x3.1 x3.2.1 x3.2.2 e3
   · refine ⟨(by decide:1<4096),?_⟩
     show @VRel T φ1 (.int .i64 0) ((a.put (some 112) c).tmps.getD 1 undef)
     rw[ZAi ha (by decide) _ (by decide),v1]
     exact @VRel.int T φ1 .i64 0
   · refine ⟨(by decide:112<4096),?_⟩
     show @VRel T φ1 (keptV rows.length) ((a.put (some 112) c).tmps.getD 112 undef)
     rw[zBm ha (by decide)]
     exact vc
 have rl2:=@Step.rel T TZ _ _ _ _ _ _ st2
 obtain ⟨o2,q2⟩:=ZCw st2 e4
 unfold wpOps
 show Code.wp TZ XW10 _ a2 w2
 refine @ret_ok T K0 (@ZBt T) (@k0_draw T) 125 XW10 gW_x fnW resW fnW_res _ _ _ _ hr3 φ2 w2 a2 _ rl2 ha2 (by decide) (ZAv rfl hv2) (fun φ3 a3 w3 cv st3 hd3 hres3 hv3=>?_)
 have rl3:=@Step.rel T TZ _ _ _ _ _ _ st3
 obtain ⟨o3,q3⟩:=ZCw st3 o2
 have q13:=q2.trans q3
 have qall:=hg1.trans q13
 have hz':=@ZAf tok0 2 _ _ hz
 subst hz'
 have h30:=(qall.2 0 (by omega)).trans h00
 refine hQ a3 w3 cv hd3 hres3 ⟨isNilIface hv3,_,qall,h30,zAj (mapW 2 rows.length (swNs9 rows.length)) φ3,x3,g,?_,rfl,own_abs rl3 o3 h30 rfl habs,e5,fun i hi=>(e6 i hi).go htag q13,fun f' hf' hff=>?_⟩
 · obtain ⟨l',hl'⟩:=swNs9_3 rows.length
   rw[hl',absPhi_3]
   exact @Step.ext T TZ _ _ _ _ _ _ st3 _ _ (@Step.ext T TZ _ _ _ _ _ _ st2 _ _ e3)
 · exact (canonW (hok:=hok) (f:=g) (f':=f') (hf:=e5) (hf':=hf') (κ:=2) hff rl3 habs).1
end
end Go.AM
namespace Go.AM
open Go.Proofs
def newF (g:Nat→Value) (r:RowW) (j:Nat):Value:=if j=500 then .int .i64 (numZ r.a) else if j=501 then .int .i64 (numZ (128+r.b)) else g j
theorem newF_cell {g:Nat→Value} (hg:∀ j,(g j).oneCell'=true) (r:RowW) (j:Nat):(newF g r j).oneCell'=true:=by
 unfold newF
 split
 · rfl
 · split
   · rfl
   · exact hg j
theorem newF_old {g:Nat→Value} {r:RowW} {j:Nat} (h:j≤2):newF g r j=g j:=by
 unfold newF
 rw[if_neg (by omega),if_neg (by omega)]
section
variable {rows:List RowW} {next:Nat} {hok:ZBp rows next} {own:Nat→Nat} {tag:Nat} {w:World} {sp:Value}
attribute [local irreducible] OW28 XW10 CSW BW in
theorem writeI_ok (hn:rows.length≤49) {r:RowW} (hid:r.id=next) (hok':ZBp (rows++[r]) (next+1)) (htag:tag≠0) (h00:own 0=0) (hS:StoW rows next hok sp tag own w)
 {xv ms:Img} (hxv:zAi (zAk w) xv (zBn r)) (hxo:own xv.1=0) (hxs:xv.2.1+6≤xv.2.2) (hms:zAi (zAk w) ms [.slice (some ⟨xv.1,xv.2.1,none⟩) 2 2]) (hmo:own ms.1=0) (hmsz:ms.2.1+1≤ms.2.2) :
 Ends TZ 10 #[sp,.int .i64 0,nilS,nilS,.slice (some ⟨ms.1,ms.2.1,none⟩) 1 1] w (WroteW (rows++[r]) (next+1) hok' sp own tag w):=by
 obtain ⟨φ,x3,g,h3,rfl,hO,hg,htr,hrel⟩:=hS
 have hlen:(rows++[r]).length=Nat.succ rows.length:=by simp
 let f:Nat→Value:=newF g r
 have hf:∀ j,(f j).oneCell'=true:=newF_cell hg r
 let T:Tok:=tokX rows next hok f hf
 have r0:=hrel f hf (fun j hj=>newF_old hj)
 have hL:=swL_len rows.length
 have hA:=mAtW_le (n:=rows.length) (by omega)
 have t5:T.val 500=.int .i64 (numZ r.a):=by show valF f rows 500=_; rw[zCx (by decide)]; rfl
 have t6:T.val 501=.int .i64 (numZ (128+r.b)):=by show valF f rows 501=_; rw[zCx (by decide)]; rfl
 obtain ⟨φ1,x1,p1,r1,o1⟩:=add_ro (T:=T) (fun _=>rfl) r0 hO (by omega) (cs:=[.int .i64 2,.opq 500,.str [],.int .i64 2,.opq 501,.str []]) hxv (fun φ' _=>by
  refine @zAa.cons T _ _ _ _ _ (@VRel.int T _ .i64 2) (@zAa.cons T _ _ _ _ _ (by rw[← t5]; exact @VRel.opq T _ 500) (@zAa.cons T _ _ _ _ _ str0X (@zAa.cons T _ _ _ _ _ (@VRel.int T _ .i64 2) (@zAa.cons T _ _ _ _ _ (by rw[← t6]; exact @VRel.opq T _ 501) (@zAa.cons T _ _ _ _ _ str0X (@zAa.nil T _))))))) (fun v hv=>by
  simp only[List.mem_cons,List.not_mem_nil,or_false] at hv
  rcases hv with rfl|rfl|rfl|rfl|rfl|rfl<;>rfl) hxo htag
 rw[hL] at p1
 have slV:∀ φ',(∀ q x,φ1 q=some x→φ' q=some x)→@VRel T φ' (.slice (mAtW rows.length) 0 2 2 true 3) (.slice (some ⟨xv.1,xv.2.1,none⟩) 2 2):=fun φ' he=>
  @VRel.slice T φ' (mAtW rows.length) 0 2 2 true 3 xv.1 xv.2.1 xv.2.2 xv.2.1 2 (he _ _ p1) (Nat.le_refl _) (Nat.le_refl _) (fun _=>rfl) (fun _=>rfl) (by omega)
 obtain ⟨φ2,x2,p2,r2,o2⟩:=add_ro (T:=T) (fun _=>rfl) r1 o1 (by rw[List.length_append]; simp only[List.length_cons,List.length_nil]; omega) (cs:=[.slice (mAtW rows.length) 0 2 2 true 3]) hms (fun φ' he=>@zAa.cons T _ _ _ _ _ (slV φ' he) (@zAa.nil T _)) (fun v hv=>by
  rw[List.mem_singleton] at hv; subst hv; rfl) hmo htag
 have hL2:3+(swL rows.length []++[Blk.cells true [.int .i64 2,.opq 500,.str [],.int .i64 2,.opq 501,.str []]]).length=Nat.succ (mAtW rows.length):=by
  rw[List.length_append]
  simp only[List.length_cons,List.length_nil]
  omega
 rw[hL2] at p2
 have hmem:(swL rows.length []++[Blk.cells true [.int .i64 2,.opq 500,.str [],.int .i64 2,.opq 501,.str []]])++[Blk.cells true [.slice (mAtW rows.length) 0 2 2 true 3]]=swL rows.length (newW rows.length):=by
  rw[List.append_assoc,swL_app rows.length (newW rows.length)]; rfl
 rw[hmem] at r2 o2
 have h23:φ2 3=some x3:=x2 _ _ (x1 _ _ h3)
 right
 refine ⟨ZBx fnW_is fnW_name fnW_body,?_⟩
 refine calls_of_wp fnW_is fnW_body ?_
 have hargs:@zAa T φ2 [.ptr 3 0,.int .i64 (.ofNat 0),.nilslice,.nilslice,.slice (Nat.succ (mAtW rows.length)) 0 1 1 true 1] (#[ptrV x3,.int .i64 0,nilS,nilS,.slice (some ⟨ms.1,ms.2.1,none⟩) 1 1]:Array Value).toList:=
  @zAa.cons T _ _ _ _ _ (@VRel.ptr T φ2 3 0 x3.1 x3.2.1 x3.2.2 h23) (@zAa.cons T _ _ _ _ _ (@VRel.int T _ .i64 0) (@zAa.cons T _ _ _ _ _ (@VRel.nilslice T _) (@zAa.cons T _ _ _ _ _ (@VRel.nilslice T _) (@zAa.cons T _ _ _ _ _
   (@VRel.slice T φ2 (Nat.succ (mAtW rows.length)) 0 1 1 true 1 ms.1 ms.2.1 ms.2.2 ms.2.1 1 p2 (Nat.le_refl _) (Nat.le_refl _) (fun _=>rfl) (fun _=>rfl) (by omega)) (@zAa.nil T _)))))
 have ha0:zBc 125 { tmps:=(#[ptrV x3,.int .i64 0,nilS,nilS,.slice (some ⟨ms.1,ms.2.1,none⟩) 1 1]:Array Value)++Array.replicate (fnW.ntmps-(#[ptrV x3,.int .i64 0,nilS,nilS,.slice (some ⟨ms.1,ms.2.1,none⟩) 1 1]:Array Value).size) undef,defers:=[] }:=⟨by simp[fnW_nt],rfl⟩
 have hregs:∀ t v,([.ptr 3 0,.int .i64 (.ofNat 0),.nilslice,.nilslice,.slice (Nat.succ (mAtW rows.length)) 0 1 1 true 1]:List AVal)[t]? = some v→@VRel T φ2 v (({ tmps:=(#[ptrV x3,.int .i64 0,nilS,nilS,.slice (some ⟨ms.1,ms.2.1,none⟩) 1 1]:Array Value)++Array.replicate (fnW.ntmps-(#[ptrV x3,.int .i64 0,nilS,nilS,.slice (some ⟨ms.1,ms.2.1,none⟩) 1 1]:Array Value).size) undef,defers:=[] }:Act).tmps.getD t undef):=fun t v ht=>args_reg hargs ht
 generalize ({ tmps:=(#[ptrV x3,.int .i64 0,nilS,nilS,.slice (some ⟨ms.1,ms.2.1,none⟩) 1 1]:Array Value)++Array.replicate (fnW.ntmps-(#[ptrV x3,.int .i64 0,nilS,nilS,.slice (some ⟨ms.1,ms.2.1,none⟩) 1 1]:Array Value).size) undef,defers:=[] }:Act)=a0 at ha0 hregs
 have hrun:=wi_at hn
 unfold wiRun at hrun
 split at hrun
 rotate_left
 · cases hrun
 rename_i vs mf hw
 unfold wRun at hw
 split at hw
 rotate_left
 · cases hw
 · cases hw
 rename_i v1 m1 hr1
 unfold wiEnd at hrun
 split at hrun
 rotate_left
 · cases hrun
 rename_i x109 rv x111 x0 x1'
 rw[Bool.and_eq_true] at hrun
 obtain ⟨hz,habs⟩:=hrun
 rw[bw_is]
 refine @ZCh TZ T K0 (@ZBt T) (@k0_draw T) 125 CSW gW _ _ _ _ _ _ hr1 φ2 w a0 _ _ r2 ha0 (by decide) (fun q hq=>?_) (fun _ φ3 a3 w3 st3 ha3 hv3=>?_) (fun i h=>by cases h) (fun h=>by cases h)
 · unfold wiRegs at hq
   simp only[List.mem_cons,List.not_mem_nil,or_false] at hq
   rcases hq with rfl|rfl|rfl|rfl|rfl
   · exact ⟨(by decide:0<4096),hregs 0 _ rfl⟩
   · exact ⟨(by decide:1<4096),hregs 1 _ rfl⟩
   · exact ⟨(by decide:2<4096),hregs 2 _ rfl⟩
   · exact ⟨(by decide:3<4096),hregs 3 _ rfl⟩
   · exact ⟨(by decide:4<4096),hregs 4 _ rfl⟩
 have rl3:=@Step.rel T TZ _ _ _ _ _ _ st3
 obtain ⟨o3,q3⟩:=ZCw st3 o2
 refine wp_seq (wp_region ?_)
 rw[sW]
 have hrange:List.range 17=List.range' 0 (zBl 10 OW28.toList).length++[10,11,12,13,14,15,16]:=by rw[lW_a]; rfl
 rw[hrange]
 refine @ZCc TZ T K0 (@ZBt T) 125 OW28 _ 0 (zBl 10 OW28.toList) [10,11,12,13,14,15,16] tW_a gW_a _ _ _ _ _ hw φ3 w3 a3 rl3 ha3 (by decide) (ZAv (ts:=[0,1,16,21]) rfl hv3) (fun φ4 a4 w4 st4 ha4 hv4=>?_)
 have rl4:=@Step.rel T TZ _ _ _ _ _ _ st4
 obtain ⟨o4,q4⟩:=ZCw st4 o3
 have q24:=q3.trans q4
 have h40:=(q24.2 0 (by have:=rel_gs r2; omega)).trans h00
 obtain ⟨c1,c2⟩:=wi_abs (hok:=hok) (r:=r) hid (hok':=hok') (f:=f) (f':=fun _=>nilS) (hf:=hf) (hf':=fun _=>rfl) rfl rfl rl4 habs
 have cv:=zipW c2 hz rfl hv4
 have oc:=own_abs rl4 o4 h40 rfl habs
 have h43:zAj (wiMap rows.length (rkNs mf (nmOf rv) (Nat.succ rows.length))) φ4 3=some x3:=by
  unfold zAj
  rw[if_pos (by rw[zBd]; show 3<2+1+(3::_).length; rw[List.length_cons]; omega)]
  exact @Step.ext T TZ _ _ _ _ _ _ st4 _ _ (@Step.ext T TZ _ _ _ _ _ _ st3 _ _ h23)
 refine write_tail (rows:=rows++[r]) (next:=next+1) (hok:=hok') (x3:=x3) htag h40 (f:=fun _=>nilS) (hf:=fun _=>rfl) (by rw[hlen]; exact c1) (by rw[hlen]; exact oc) h43 ha4 (by rw[hlen]; exact cv) (fun a' w' c hd hres hw'=>?_)
 obtain ⟨rfl,own',k1,k2,k3⟩:=hw'
 exact ⟨hd,_,hres,_,rfl,rfl,own',q24.trans k1,k2,k3⟩
attribute [local irreducible] OW28 XW10 CSW BW in
theorem writeD_ok {p k:Nat} (hp:p<rows.length) (hk:rows.length=k+1) (hok':ZBp (rows.eraseIdx p) next) (htag:tag≠0) (h00:own 0=0) (hS:StoW rows next hok sp tag own w)
 {ms:Img} (hms:zAi (zAk w) ms [.int .u64 (idAt rows p:Int)]) (hmo:own ms.1=0) (hmsz:ms.2.1+1≤ms.2.2) :
 Ends TZ 10 #[sp,.int .i64 0,nilS,.slice (some ⟨ms.1,ms.2.1,none⟩) 1 1,nilS] w (WroteW (rows.eraseIdx p) next hok' sp own tag w):=by
 obtain ⟨φ,x3,g,h3,rfl,hO,hg,htr,hrel⟩:=hS
 have hlen:(rows.eraseIdx p).length=k:=by rw[List.length_eraseIdx,if_pos hp]; omega
 have h50:=hok.len
 let T:Tok:=tokX rows next hok g hg
 have r0:=hrel g hg (fun j hj=>rfl)
 have hL:=swL_len rows.length
 have hA:=mAtW_le (n:=rows.length) (by omega)
 obtain ⟨φ2,x2,p2,r2,o2⟩:=add_ro (T:=T) (fun _=>rfl) r0 hO (by omega) (cs:=[.sym .u64 p]) hms (fun φ' he=>@zAa.cons T _ _ _ _ _ (@VRel.sym T φ' .u64 p hp) (@zAa.nil T _)) (fun v hv=>by
  rw[List.mem_singleton] at hv; subst hv; rfl) hmo htag
 rw[hL] at p2
 have hmem:swL rows.length []++[Blk.cells true [.sym .u64 p]]=swL rows.length (goneW p):=(swL_app rows.length (goneW p)).symm
 rw[hmem] at r2 o2
 have h23:φ2 3=some x3:=x2 _ _ h3
 right
 refine ⟨ZBx fnW_is fnW_name fnW_body,?_⟩
 refine calls_of_wp fnW_is fnW_body ?_
 have hargs:@zAa T φ2 [.ptr 3 0,.int .i64 (.ofNat 0),.nilslice,.slice (mAtW rows.length) 0 1 1 true 1,.nilslice] (#[ptrV x3,.int .i64 0,nilS,.slice (some ⟨ms.1,ms.2.1,none⟩) 1 1,nilS]:Array Value).toList:=
  @zAa.cons T _ _ _ _ _ (@VRel.ptr T φ2 3 0 x3.1 x3.2.1 x3.2.2 h23) (@zAa.cons T _ _ _ _ _ (@VRel.int T _ .i64 0) (@zAa.cons T _ _ _ _ _ (@VRel.nilslice T _) (@zAa.cons T _ _ _ _ _
   (@VRel.slice T φ2 (mAtW rows.length) 0 1 1 true 1 ms.1 ms.2.1 ms.2.2 ms.2.1 1 p2 (Nat.le_refl _) (Nat.le_refl _) (fun _=>rfl) (fun _=>rfl) (by omega)) (@zAa.cons T _ _ _ _ _ (@VRel.nilslice T _) (@zAa.nil T _)))))
 have ha0:zBc 125 { tmps:=(#[ptrV x3,.int .i64 0,nilS,.slice (some ⟨ms.1,ms.2.1,none⟩) 1 1,nilS]:Array Value)++Array.replicate (fnW.ntmps-(#[ptrV x3,.int .i64 0,nilS,.slice (some ⟨ms.1,ms.2.1,none⟩) 1 1,nilS]:Array Value).size) undef,defers:=[] }:=⟨by simp[fnW_nt],rfl⟩
 have hregs:∀ t v,([.ptr 3 0,.int .i64 (.ofNat 0),.nilslice,.slice (mAtW rows.length) 0 1 1 true 1,.nilslice]:List AVal)[t]? = some v→@VRel T φ2 v (({ tmps:=(#[ptrV x3,.int .i64 0,nilS,.slice (some ⟨ms.1,ms.2.1,none⟩) 1 1,nilS]:Array Value)++Array.replicate (fnW.ntmps-(#[ptrV x3,.int .i64 0,nilS,.slice (some ⟨ms.1,ms.2.1,none⟩) 1 1,nilS]:Array Value).size) undef,defers:=[] }:Act).tmps.getD t undef):=fun t v ht=>args_reg hargs ht
 generalize ({ tmps:=(#[ptrV x3,.int .i64 0,nilS,.slice (some ⟨ms.1,ms.2.1,none⟩) 1 1,nilS]:Array Value)++Array.replicate (fnW.ntmps-(#[ptrV x3,.int .i64 0,nilS,.slice (some ⟨ms.1,ms.2.1,none⟩) 1 1,nilS]:Array Value).size) undef,defers:=[] }:Act)=a0 at ha0 hregs
 have hrun:=wd_at (k:=k) (p:=p) (by omega) (by omega)
 unfold wdRun at hrun
 rw[show Nat.succ k=rows.length from hk.symm] at hrun
 split at hrun
 rotate_left
 · cases hrun
 rename_i vs mf hw
 unfold wRun at hw
 split at hw
 rotate_left
 · cases hw
 · cases hw
 rename_i v1 m1 hr1
 unfold wdEnd at hrun
 split at hrun
 rotate_left
 · cases hrun
 rename_i x109 rv x111 x0 x1'
 rw[Bool.and_eq_true] at hrun
 obtain ⟨hz,habs⟩:=hrun
 rw[bw_is]
 refine @ZCh TZ T K0 (@ZBt T) (@k0_draw T) 125 CSW gW _ _ _ _ _ _ hr1 φ2 w a0 _ _ r2 ha0 (by decide) (fun q hq=>?_) (fun _ φ3 a3 w3 st3 ha3 hv3=>?_) (fun i h=>by cases h) (fun h=>by cases h)
 · unfold wdRegs at hq
   simp only[List.mem_cons,List.not_mem_nil,or_false] at hq
   rcases hq with rfl|rfl|rfl|rfl|rfl
   · exact ⟨(by decide:0<4096),hregs 0 _ rfl⟩
   · exact ⟨(by decide:1<4096),hregs 1 _ rfl⟩
   · exact ⟨(by decide:2<4096),hregs 2 _ rfl⟩
   · exact ⟨(by decide:3<4096),hregs 3 _ rfl⟩
   · exact ⟨(by decide:4<4096),hregs 4 _ rfl⟩
 have rl3:=@Step.rel T TZ _ _ _ _ _ _ st3
 obtain ⟨o3,q3⟩:=ZCw st3 o2
 refine wp_seq (wp_region ?_)
 rw[sW]
 have hrange:List.range 17=List.range' 0 (zBl 10 OW28.toList).length++[10,11,12,13,14,15,16]:=by rw[lW_a]; rfl
 rw[hrange]
 refine @ZCc TZ T K0 (@ZBt T) 125 OW28 _ 0 (zBl 10 OW28.toList) [10,11,12,13,14,15,16] tW_a gW_a _ _ _ _ _ hw φ3 w3 a3 rl3 ha3 (by decide) (ZAv (ts:=[0,1,16,21]) rfl hv3) (fun φ4 a4 w4 st4 ha4 hv4=>?_)
 have rl4:=@Step.rel T TZ _ _ _ _ _ _ st4
 obtain ⟨o4,q4⟩:=ZCw st4 o3
 have q24:=q3.trans q4
 have h40:=(q24.2 0 (by have:=rel_gs r2; omega)).trans h00
 obtain ⟨c1,c2⟩:=wd_abs (hok:=hok) hp hk (hok':=hok') (f:=g) (f':=fun _=>nilS) (hf:=hg) (hf':=fun _=>rfl) rl4 habs
 have cv:=zipW c2 hz rfl hv4
 have oc:=own_abs rl4 o4 h40 rfl habs
 have h43:zAj (wdMap k p (rkNs mf (nmOf rv) k)) φ4 3=some x3:=by
  unfold zAj
  rw[if_pos (by rw[zBd]; show 3<2+1+(3::_).length; rw[List.length_cons]; omega)]
  exact @Step.ext T TZ _ _ _ _ _ _ st4 _ _ (@Step.ext T TZ _ _ _ _ _ _ st3 _ _ h23)
 refine write_tail (rows:=rows.eraseIdx p) (next:=next) (hok:=hok') (x3:=x3) htag h40 (f:=fun _=>nilS) (hf:=fun _=>rfl) (by rw[hlen]; exact c1) (by rw[hlen]; exact oc) h43 ha4 (by rw[hlen]; exact cv) (fun a' w' c hd hres hw'=>?_)
 obtain ⟨rfl,own',k1,k2,k3⟩:=hw'
 exact ⟨hd,_,hres,_,rfl,rfl,own',q24.trans k1,k2,k3⟩
end
end Go.AM
namespace Go.AM
open Go.Proofs
structure IdsOk (ids:List Nat) (next:Nat):Prop where
 sorted:ids.Pairwise fun i j=>i<j
 pos:∀ i,i∈ids→1≤i
 lt:∀ i,i∈ids→i<next
 next:1≤next∧next≤100
@[reducible] def tokP (ids:List Nat) (next:Nat) (h:IdsOk ids next) (rows:List RowW) (f:Nat→Value) (hf:∀ j,(f j).oneCell'=true):Tok where
 num j:=((ids[j]?.getD 0:Nat):Int)
 cnt:=ids.length
 pos j hj:=by
  have:=h.pos _ (List.getElem_mem hj)
  rw[List.getElem?_eq_getElem hj]
  show (1:Int)≤((ids[j]:Nat):Int)
  omega
 hi j hj:=by
  have:=h.lt _ (List.getElem_mem hj)
  have:=h.next.2
  rw[List.getElem?_eq_getElem hj]
  show ((ids[j]:Nat):Int)≤127
  omega
 mono i j hij hj:=by
  have hs:=List.pairwise_iff_getElem.1 h.sorted i j (Nat.lt_trans hij hj) hj hij
  rw[List.getElem?_eq_getElem (Nat.lt_trans hij hj),List.getElem?_eq_getElem hj]
  show ((ids[i]'(Nat.lt_trans hij hj):Nat):Int)<((ids[j]:Nat):Int)
  omega
 base:=(next:Int)
 val:=valF f rows
 cell:=valF_cell hf rows
theorem tokP_nx {ids:List Nat} {next:Nat} {h:IdsOk ids next} {rows:List RowW} {f:Nat→Value} {hf:∀ j,(f j).oneCell'=true}:@Tok.nxok (tokP ids next h rows f hf):=by
 refine ⟨?_,?_,fun j hj=>?_⟩
 · have:=h.next.1
   show (1:Int)≤(next:Int)
   omega
 · have:=h.next.2
   show (next:Int)≤120
   omega
 · have:=h.lt _ (List.getElem_mem (show j<ids.length from hj))
   show ((ids[j]?.getD 0:Nat):Int)<(next:Int)
   rw[List.getElem?_eq_getElem hj]
   show ((ids[j]:Nat):Int)<(next:Int)
   omega
theorem place {x:Nat}:∀ {rows:List RowW},rows.Pairwise (fun r s=>r.id<s.id)→(∀ r,r∈rows→r.id≠x)→∃ p,p≤rows.length∧(∀ r,r∈rows.take p→r.id<x)∧∀ r,r∈rows.drop p→x<r.id
 | [],_,_=>⟨0,Nat.le_refl _,fun r h=>by simp at h,fun r h=>by simp at h⟩
 |s::l,hs,hx=>by
  rw[List.pairwise_cons] at hs
  rcases Nat.lt_or_ge s.id x with h|h
  · obtain ⟨p,h1,h2,h3⟩:=place hs.2 fun r hr=>hx r (List.mem_cons_of_mem _ hr)
    refine ⟨p+1,by rw[List.length_cons]; omega,fun r hr=>?_,fun r hr=>h3 r (by simpa using hr)⟩
    rw[List.take_succ_cons] at hr
    rcases List.mem_cons.1 hr with rfl|hr
    · exact h
    · exact h2 r hr
  · have hne:=hx s (List.mem_cons_self ..)
    refine ⟨0,Nat.zero_le _,fun r hr=>by simp at hr,fun r hr=>?_⟩
    rw[List.drop_zero] at hr
    rcases List.mem_cons.1 hr with rfl|hr
    · omega
    · have:=hs.1 r hr
      omega
def idsX (rows:List RowW) (p x:Nat):List Nat:=(rows.take p).map RowW.id++x::(rows.drop p).map RowW.id
theorem idsX_len {rows:List RowW} {p x:Nat} (h:p≤rows.length):(idsX rows p x).length=rows.length+1:=by
 unfold idsX
 simp only[List.length_append,List.length_map,List.length_take,List.length_cons,List.length_drop]
 omega
theorem idsX_ok {rows:List RowW} {next:Nat} (hok:ZBp rows next) {p x:Nat} (h1:∀ r,r∈rows.take p→r.id<x) (h2:∀ r,r∈rows.drop p→x<r.id) (hx:1≤x) (hn:x<next):IdsOk (idsX rows p x) next where
 sorted:=by
  have hs:=hok.sorted
  rw[← List.take_append_drop p rows,List.pairwise_append] at hs
  obtain ⟨s1,s2,s3⟩:=hs
  refine List.pairwise_append.2 ⟨List.pairwise_map.2 s1,List.pairwise_cons.2 ⟨fun i hi=>?_,List.pairwise_map.2 s2⟩,fun i hi j hj=>?_⟩
  · obtain ⟨r,hr,rfl⟩:=List.mem_map.1 hi
    exact h2 r hr
  · obtain ⟨r,hr,rfl⟩:=List.mem_map.1 hi
    rcases List.mem_cons.1 hj with rfl|hj
    · exact h1 r hr
    · obtain ⟨s,hs,rfl⟩:=List.mem_map.1 hj
      exact s3 r hr s hs
 pos i hi:=by
  rcases List.mem_append.1 hi with hi|hi
  · obtain ⟨r,hr,rfl⟩:=List.mem_map.1 hi
    exact (hok.ok r (List.mem_of_mem_take hr)).pos
  · rcases List.mem_cons.1 hi with rfl|hi
    · exact hx
    · obtain ⟨r,hr,rfl⟩:=List.mem_map.1 hi
      exact (hok.ok r (List.mem_of_mem_drop hr)).pos
 lt i hi:=by
  rcases List.mem_append.1 hi with hi|hi
  · obtain ⟨r,hr,rfl⟩:=List.mem_map.1 hi
    exact hok.lt r (List.mem_of_mem_take hr)
  · rcases List.mem_cons.1 hi with rfl|hi
    · exact hn
    · obtain ⟨r,hr,rfl⟩:=List.mem_map.1 hi
      exact hok.lt r (List.mem_of_mem_drop hr)
 next:=hok.next
theorem idsX_lt {rows:List RowW} {p x j:Nat} (h:p≤rows.length) (hj:j<p):(idsX rows p x)[j]?.getD 0=idAt rows j:=by
 unfold idsX idAt
 rw[List.getElem?_append_left (by simp; omega),List.getElem?_map,List.getElem?_take,if_pos hj]
theorem idsX_gt {rows:List RowW} {p x j:Nat} (h:p≤rows.length) (hj:p≤j):(idsX rows p x)[j+1]?.getD 0=idAt rows j:=by
 unfold idsX idAt
 rw[List.getElem?_append_right (by simp; omega),List.length_map,List.length_take,Nat.min_eq_left h,show j+1-p=(j-p)+1 by omega,List.getElem?_cons_succ,List.getElem?_map,List.getElem?_drop,show p+(j-p)=j by omega]
theorem idsX_at {rows:List RowW} {p x:Nat} (h:p≤rows.length):(idsX rows p x)[p]?.getD 0=x:=by
 unfold idsX
 rw[List.getElem?_append_right (by simp; omega),List.length_map,List.length_take,Nat.min_eq_left h,Nat.sub_self]; rfl
theorem holeS_get {p:Nat}:∀ {n k j:Nat},j<n→(holeS p n k)[j]? = some (zAc (.sym .u64 (k+j)) (zAc (.sym .u64 1000) (.sym .u64 (Nat.sub (k+j) 1)) (Nat.beq (k+j) p)) (Nat.ble (Nat.succ (k+j)) p))
 |n+1,k,0,_=>rfl
 |n+1,k,j+1,h=>by
  show (_::holeS p n (k+1))[j+1]? = _
  rw[List.getElem?_cons_succ,holeS_get (n:=n) (by omega),show k+1+j=k+(j+1) by omega]
theorem holeS_len {p:Nat}:∀ n k:Nat,(holeS p n k).length=n
 |0,_=>rfl
 |n+1,k=>by show (holeS p n (k+1)).length+1=_; rw[holeS_len n (k+1)]
theorem op12 (i:Nat):(zAc (.opq i) .bad (or (Nat.ble i 2) (Nat.ble 1000 i)):AVal)=if i≤2∨1000≤i then .opq i else .bad:=by
 rw[zAn]
 by_cases h:i≤2∨1000≤i
 · rw[if_pos h,if_pos (by rw[Bool.or_eq_true,zAd,zAd]; exact h)]
 · rw[if_neg h,if_neg (by rw[Bool.or_eq_true,zAd,zAd]; exact h)]
def ErrX (own:Nat→Nat) (tag:Nat) (w:World) (e:Value):Prop:=
 ∃ (x1:Img) (v1:Value),e=.iface 118 (ptrV x1)∧zAi (zAk w) x1 [v1,.iface 101 (.int .i64 40)]∧(∀ T φ,@VRel T φ (.str [114,111,119]) v1)∧(own x1.1=0∨own x1.1=tag)
theorem errx_end {T:Tok} (hst:T.strong=false) {φ:Phi} {m:Mem} {w:World} {own:Nat→Nat} {tag:Nat} (hr:@Rel T TZ φ m w) (ho:OwnAt φ m own tag) (h0:own 0=0) {q:Nat} {e:Value} (he:@VRel T φ (.iface 118 (.ptr q 0)) e)
 (habs:zAp ⟨2,[q],[],fun _=>.bad,fun _=>.bad⟩ 0 b00 errP m=true):ErrX own tag w e:=by
 obtain ⟨r1,r2⟩:=absorb (T:=T) (T':=T) (σ:=⟨2,[q],[],fun _=>.bad,fun _=>.bad⟩) ZAa.symm hr habs (fun _ j c hj _=>absurd hj (Nat.not_lt_zero _)) (fun kk d s c hs _=>(aeq_bad hs).elim) (fun i s c hs hc=>(aeq_bad hs).elim) (fun _ _ h=>h) (fun h=>by rw[hst] at h; cases h)
 have hown:=own_abs hr ho h0 (σ:=⟨2,[q],[],fun _=>.bad,fun _=>.bad⟩) rfl habs
 obtain ⟨b1,b2⟩:=zAv (b0:=b00) (l:=errP) (by show 2+1+1≤65536; decide) (i:=0) rfl
 obtain ⟨x1,vs1,g1,g2,g3⟩:=ZBd (P:=TZ) zBu r1 b1 b2
 have g1':φ q=some x1:=g1
 cases he with
 |iface _ _ c hc=>
  have hc':=ptr_is hc g1'
  subst hc'
  cases g3 with
  |cons s1 g3=>
  cases g3 with
  |cons s2 g3=>
  cases g3
  cases s2 with
  |iface _ _ c2v hc2=>
   have hc2':=intE hc2
   subst hc2'
   cases s1 with
   |str _ t ht=>
    exact ⟨x1,_,rfl,g2,fun T' φ'=>@VRel.str T' φ' [114,111,119] t ht,hown.live 3 _ _ _ b1 (by rw[b2]; rfl) g1⟩
def WroteX (rows:List RowW) (next:Nat) (hok:ZBp rows next) (sp:Value) (own:Nat→Nat) (tag:Nat) (w:World) (c:Value) (w':World):Prop:=
 ∃ own',OGo tag own w own' w'∧own' 0=0∧StoW rows next hok sp tag own' w'∧ErrX own' tag w' c
section
variable {rows:List RowW} {next:Nat} {hok:ZBp rows next} {own:Nat→Nat} {tag:Nat} {w:World} {sp:Value}
attribute [local irreducible] BW in
theorem writeX_ok (hn:rows.length≤49) {x:Nat} (hx1:1≤x) (hx2:x<next) (hx:∀ r,r∈rows→r.id≠x) (htag:tag≠0) (h00:own 0=0) (hS:StoW rows next hok sp tag own w)
 {ms:Img} (hms:zAi (zAk w) ms [.int .u64 (x:Int)]) (hmo:own ms.1=0) (hmsz:ms.2.1+1≤ms.2.2) :
 Ends TZ 10 #[sp,.int .i64 0,nilS,.slice (some ⟨ms.1,ms.2.1,none⟩) 1 1,nilS] w (WroteX rows next hok sp own tag w):=by
 obtain ⟨φ,x3,g,h3,rfl,hO,hg,htr,hrel⟩:=hS
 obtain ⟨p,hp,hp1,hp2⟩:=place hok.sorted hx
 have hI:=idsX_ok hok hp1 hp2 hx1 hx2
 obtain ⟨hP,hrun⟩:=wx_at hn hp
 have hil:=idsX_len (x:=x) hp
 have r00:=hrel g hg (fun j hj=>rfl)
 let T0:Tok:=tokX rows next hok g hg
 let T:Tok:=tokP (idsX rows p x) next hI rows g hg
 have hL:=swL_len rows.length
 have hA:=mAtW_le (n:=rows.length) (by omega)
 have h00':own 0=0:=h00
 obtain ⟨r0,_⟩:=absT (T:=T0) (T':=T) (σ:=toP rows.length p) rfl r00 hP (fun j hj=>by
  have hj':j<rows.length+1:=by
   have:(toP rows.length p).ts.length=rows.length+1:=holeS_len _ _
   omega
  refine ⟨by show j<(idsX rows p x).length; rw[hil]; exact hj',.inl ?_⟩
  rw[tok_eq]
  have hts:((toP rows.length p).ts[j]?).getD .bad=zAc (.sym .u64 j) (zAc (.sym .u64 1000) (.sym .u64 (Nat.sub j 1)) (Nat.beq j p)) (Nat.ble (Nat.succ j) p):=by
   show ((holeS p (Nat.succ rows.length) 0)[j]?).getD .bad=_
   rw[holeS_get hj',Nat.zero_add]; rfl
  rw[hts,zAn,zAn]
  by_cases h1:j<p
  · rw[if_pos (zAd.2 h1)]
    refine ⟨j,rfl,fun _=>?_⟩
    show (((idsX rows p x)[j]?.getD 0:Nat):Int)=(idAt rows j:Int)
    rw[idsX_lt hp h1]
  · rw[if_neg (fun e=>h1 (zAd.1 e))]
    by_cases h2:j=p
    · rw[if_pos (beq_true.2 h2)]
      refine ⟨1000,rfl,fun h=>?_⟩
      have:1000<rows.length:=h
      omega
    · rw[if_neg (fun e=>h2 (beq_true.1 e))]
      refine ⟨j-1,rfl,fun _=>?_⟩
      show (((idsX rows p x)[j]?.getD 0:Nat):Int)=(idAt rows (j-1):Int)
      have:=idsX_gt (x:=x) hp (j:=j-1) (by omega)
      rw[show j-1+1=j by omega] at this
      rw[this]) ⟨0,fun d=>rfl,by show (next:Int)=(next:Int)+0; omega,tokP_nx⟩ (fun i=>by
  show (zAc (.opq i) .bad (or (Nat.ble i 2) (Nat.ble 1000 i)):AVal)=.bad∨∃ s,(zAc (.opq i) .bad (or (Nat.ble i 2) (Nat.ble 1000 i)):AVal)=.opq s∧valF g rows i=valF g rows s
  rw[op12]
  split
  · exact .inr ⟨i,rfl,rfl⟩
  · exact .inl rfl) (fun _=>rfl) rfl
 have o0:=own_abs r00 hO h00' rfl hP
 have h30:zAj (toP rows.length p) φ 3=some x3:=by
  unfold zAj
  rw[if_pos (by rw[zBd]; show 3<2+1+(3::_).length; rw[List.length_cons]; omega)]
  exact h3
 have hsl:(swP rows.length p []).length=(swL rows.length []).length:=by
  unfold swP swL swG tailP tailW
  cases rows.length with
  |zero=>rfl
  |succ k=>rfl
 obtain ⟨φ2,x2,p2,r2,o2⟩:=add_ro (T:=T) (fun _=>rfl) r0 o0 (by omega) (cs:=[.sym .u64 p]) hms (fun φ' he=>by
  refine @zAa.cons T _ _ _ _ _ ?_ (@zAa.nil T _)
  have e:(x:Int)=T.num p:=by
   show (x:Int)=(((idsX rows p x)[p]?.getD 0:Nat):Int)
   rw[idsX_at hp]
  rw[e]
  exact @VRel.sym T φ' .u64 p (by show p<(idsX rows p x).length; omega)) (fun v hv=>by
  rw[List.mem_singleton] at hv; subst hv; rfl) hmo htag
 rw[hsl,hL] at p2
 have hmem:swP rows.length p []++[Blk.cells true [.sym .u64 p]]=swP rows.length p (goneW p):=by
  unfold swP swG tailP
  cases rows.length with
  |zero=>rfl
  |succ k=>
   show (_::_::_::_::_::_::_::_::_::_::ZCa _ [])++_=_::_::_::_::_::_::_::_::_::_::ZCa _ (goneW p)
   rw[ZBm,ZBm,List.append_nil]; rfl
 rw[hmem] at r2 o2
 have h23:φ2 3=some x3:=x2 _ _ h30
 right
 refine ⟨ZBx fnW_is fnW_name fnW_body,?_⟩
 refine calls_of_wp fnW_is fnW_body ?_
 have hargs:@zAa T φ2 [.ptr 3 0,.int .i64 (.ofNat 0),.nilslice,.slice (mAtW rows.length) 0 1 1 true 1,.nilslice] (#[ptrV x3,.int .i64 0,nilS,.slice (some ⟨ms.1,ms.2.1,none⟩) 1 1,nilS]:Array Value).toList:=
  @zAa.cons T _ _ _ _ _ (@VRel.ptr T φ2 3 0 x3.1 x3.2.1 x3.2.2 h23) (@zAa.cons T _ _ _ _ _ (@VRel.int T _ .i64 0) (@zAa.cons T _ _ _ _ _ (@VRel.nilslice T _) (@zAa.cons T _ _ _ _ _
   (@VRel.slice T φ2 (mAtW rows.length) 0 1 1 true 1 ms.1 ms.2.1 ms.2.2 ms.2.1 1 p2 (Nat.le_refl _) (Nat.le_refl _) (fun _=>rfl) (fun _=>rfl) (by omega)) (@zAa.cons T _ _ _ _ _ (@VRel.nilslice T _) (@zAa.nil T _)))))
 have ha0:zBc 125 { tmps:=(#[ptrV x3,.int .i64 0,nilS,.slice (some ⟨ms.1,ms.2.1,none⟩) 1 1,nilS]:Array Value)++Array.replicate (fnW.ntmps-(#[ptrV x3,.int .i64 0,nilS,.slice (some ⟨ms.1,ms.2.1,none⟩) 1 1,nilS]:Array Value).size) undef,defers:=[] }:=⟨by simp[fnW_nt],rfl⟩
 have hregs:∀ t v,([.ptr 3 0,.int .i64 (.ofNat 0),.nilslice,.slice (mAtW rows.length) 0 1 1 true 1,.nilslice]:List AVal)[t]? = some v→@VRel T φ2 v (({ tmps:=(#[ptrV x3,.int .i64 0,nilS,.slice (some ⟨ms.1,ms.2.1,none⟩) 1 1,nilS]:Array Value)++Array.replicate (fnW.ntmps-(#[ptrV x3,.int .i64 0,nilS,.slice (some ⟨ms.1,ms.2.1,none⟩) 1 1,nilS]:Array Value).size) undef,defers:=[] }:Act).tmps.getD t undef):=fun t v ht=>args_reg hargs ht
 generalize ({ tmps:=(#[ptrV x3,.int .i64 0,nilS,.slice (some ⟨ms.1,ms.2.1,none⟩) 1 1,nilS]:Array Value)++Array.replicate (fnW.ntmps-(#[ptrV x3,.int .i64 0,nilS,.slice (some ⟨ms.1,ms.2.1,none⟩) 1 1,nilS]:Array Value).size) undef,defers:=[] }:Act)=a0 at ha0 hregs
 unfold wxRun at hrun
 split at hrun
 rotate_left
 · cases hrun
 rename_i q mf hq
 rw[Bool.and_eq_true] at hrun
 obtain ⟨habs,herr⟩:=hrun
 refine @ret_ok T K0 (@ZBt T) (@k0_draw T) 125 BW gW_b fnW resW fnW_res _ _ _ _ hq φ2 w a0 _ r2 ha0 (by decide) (fun q hq=>?_) (fun φ3 a3 w3 cv st3 hd3 hres3 hv3=>?_)
 · unfold wdRegs at hq
   simp only[List.mem_cons,List.not_mem_nil,or_false] at hq
   rcases hq with rfl|rfl|rfl|rfl|rfl
   · exact ⟨(by decide:0<4096),hregs 0 _ rfl⟩
   · exact ⟨(by decide:1<4096),hregs 1 _ rfl⟩
   · exact ⟨(by decide:2<4096),hregs 2 _ rfl⟩
   · exact ⟨(by decide:3<4096),hregs 3 _ rfl⟩
   · exact ⟨(by decide:4<4096),hregs 4 _ rfl⟩
 have rl3:=@Step.rel T TZ _ _ _ _ _ _ st3
 obtain ⟨o3,q3⟩:=ZCw st3 o2
 have h300:=(q3.2 0 (by have:=rel_gs r2; omega)).trans h00
 refine ⟨hd3,cv,hres3,cv,rfl,_,q3,h300,⟨zAj (ofP rows.length p (swNs9 rows.length)) φ3,x3,g,?_,rfl,own_abs rl3 o3 h300 rfl habs,hg,fun i hi=>(htr i hi).go htag q3,fun f' hf' hff=>?_⟩,errx_end (T:=T) rfl rl3 o3 h300 hv3 herr⟩
 · unfold zAj
   rw[if_pos (by rw[zBd]; show 3<2+1+(3::_).length; rw[List.length_cons]; omega)]
   exact @Step.ext T TZ _ _ _ _ _ _ st3 _ _ h23
 · refine (absT (T:=T) (T':=tokX rows next hok f' hf') (σ:=ofP rows.length p (swNs9 rows.length)) rfl rl3 habs (fun j hj=>?_) ⟨0,fun d=>rfl,by show (next:Int)=(next:Int)+0; omega,tokX_nx⟩ (fun i=>?_) (fun _=>rfl) rfl).1
   · have hj':j<rows.length:=by
      have:(ofP rows.length p (swNs9 rows.length)).ts.length=rows.length:=symsD_len _ _
      omega
     refine ⟨hj',.inl ⟨upW1 p j,?_,fun _=>?_⟩⟩
     · rw[tok_eq]
       show ((symsD p rows.length 0)[j]?).getD .bad=_
       rw[symsD_get hj',Nat.zero_add]; rfl
     · show (idAt rows j:Int)=(((idsX rows p x)[upW1 p j]?.getD 0:Nat):Int)
       rw[upW1_eq]
       split
       · rename_i h1
         rw[idsX_lt hp h1]
       · rename_i h1
         rw[idsX_gt hp (by omega)]
   · show (zAc (.opq i) .bad (or (Nat.ble i 2) (Nat.ble 1000 i)):AVal)=.bad∨∃ s,(zAc (.opq i) .bad (or (Nat.ble i 2) (Nat.ble 1000 i)):AVal)=.opq s∧valF f' rows i=valF g rows s
     rw[op12]
     split
     · rename_i h1
       refine .inr ⟨i,rfl,?_⟩
       rcases h1 with h1|h1
       · rw[zCx (by omega),zCx (by omega),hff i h1]
       · unfold valF
         rw[if_neg (by omega),if_neg (by omega)]
     · exact .inl rfl
end
end Go.AM
namespace Go.AM
variable {P:Program}
theorem cond_ifV {α:Type} (x y:α) (b:Bool):zAc x y b=if b=true then x else y:=by cases b<;>rfl
structure RF (nt:Nat) (f:Nat→Value) (a:Act):Prop where
 is:zBc nt a
 reg:∀ t,a.tmps.getD t undef=f t
def upF (f:Nat→Value) (d:Nat) (v:Value) (t:Nat):Value:=zAc v (f t) (Nat.beq t d)
theorem upF_eq (f:Nat→Value) (d:Nat) (v:Value) (t:Nat):upF f d v t=if t=d then v else f t:=by
 unfold upF
 rw[cond_ifV]
 by_cases h:t=d
 · rw[if_pos (beq_true.2 h),if_pos h]
 · rw[if_neg (fun e=>h (beq_true.1 e)),if_neg h]
theorem RF.put {nt:Nat} {f:Nat→Value} {a:Act} (h:RF nt f a) {d:Nat} (hd:d<nt) (v:Value):RF nt (upF f d v) (a.put (some d) v):=
 ⟨zCu h.is _ _,fun t=>by rw[put_get h.is hd,upF_eq,h.reg]⟩
def evF (f:Nat→Value):Operand→Value
 | .tmp t=>f t
 | .const v=>v
 | .global g=>.pointer (some ⟨g,0,none⟩)
 | .func g=>.func (.func g) #[] #[]
theorem RF.ev {nt:Nat} {f:Nat→Value} {a:Act} (h:RF nt f a):a.eval=evF f:=funext fun x=>by
 cases x<;>simp[Act.eval,evF,h.reg]
def setL:List (Nat×Value)→(Nat→Value)→Nat→Value
 | [],f=>f
 |p::l,f=>upF (setL l f) p.1 p.2
structure zAr (nt:Nat) (L:List (Nat×Value)) (a:Act):Prop where
 is:zBc nt a
 reg:∀ p,p∈L→a.tmps.getD p.1 undef=p.2
theorem setL_same {f:Nat→Value}:∀ {L:List (Nat×Value)},(∀ p,p∈L→f p.1=p.2)→setL L f=f
 | [],_=>rfl
 |p::l,h=>by
  funext t
  show upF (setL l f) p.1 p.2 t=f t
  rw[upF_eq,setL_same (L:=l) fun q hq=>h q (List.mem_cons_of_mem _ hq)]
  split
  · rename_i e; rw[e,h p (List.mem_cons_self ..)]
  · rfl
theorem zAr.rf {nt:Nat} {L:List (Nat×Value)} {a:Act} (h:zAr nt L a):RF nt (setL L fun t=>a.tmps.getD t undef) a:=
 ⟨h.is,fun t=>by rw[setL_same h.reg]⟩
theorem RF.list {nt:Nat} {f:Nat→Value} {a:Act} (h:RF nt f a) {L:List (Nat×Value)} (hL:L.map (fun p=>f p.1)=L.map Prod.snd):zAr nt L a:=
 ⟨h.is,fun p hp=>by
  rw[h.reg]
  clear h
  induction L with
  |nil=>cases hp
  |cons q l ih=>
   simp only[List.map_cons,List.cons.injEq] at hL
   rcases List.mem_cons.1 hp with rfl|hp
   · exact hL.1
   · exact ih hL.2 hp⟩
def vbin:BinOp→Value→Value→Option Value
 | .lss,.int k a,.int k' b=>zAc (some (.bool (decide (a<b)))) none (decide (k=k'))
 | .gtr,.int k a,.int k' b=>zAc (some (.bool (decide (a > b)))) none (decide (k=k'))
 | .leq,.int k a,.int k' b=>zAc (some (.bool (decide (a≤b)))) none (decide (k=k'))
 | .geq,.int k a,.int k' b=>zAc (some (.bool (decide (a ≥ b)))) none (decide (k=k'))
 | .eql,.int k a,.int k' b=>zAc (some (.bool (a == b))) none (decide (k=k'))
 | .neq,.int k a,.int k' b=>zAc (some (.bool (a != b))) none (decide (k=k'))
 |_,_,_=>none
structure TyOk (P:Program) (ty:TypeId→Nat):Prop where
 sl:∀ t,ty t=1→∃ e,P.underlying t=some (.slice e)
 it:∀ t,ty t=2→∃ ms,P.underlying t=some (.interface ms)
 bo:∀ t,ty t=3→P.underlying t=some .bool
def vnil (b:Bool):Value→Option Value
 | .nilIface=>some (.bool b)
 | .iface _ _=>some (.bool (not b))
 |_=>none
def vboo (b:Bool):Value→Value→Option Value
 | .bool x,.bool y=>some (.bool (zAc (x == y) (!(x == y)) b))
 |_,_=>none
def vop (ty:TypeId→Nat) (f:Nat→Value):Op→Option Value
 | .move x=>some (evF f x)
 | .assign x=>some (evF f x)
 | .pick c a b=>match evF f c with
  | .bool t=>some (zAc (evF f a) (evF f b) t)
  |_=>none
 | .extract x i=>match evF f x with
  | .tuple vs=>vs[i]?
  |_=>none
 | .unOp .not _ x=>match evF f x with
  | .bool t=>some (.bool (not t))
  |_=>none
 | .binOp .neq t x (.const .nilIface) _=>zAc (vnil false (evF f x)) none (Nat.beq (ty t) 2)
 | .binOp .eql t x (.const .nilIface) _=>zAc (vnil true (evF f x)) none (Nat.beq (ty t) 2)
 | .binOp op t x y _=>zAc (match op with
  | .neq=>vboo false (evF f x) (evF f y)
  | .eql=>vboo true (evF f x) (evF f y)
  |_=>none) (vbin op (evF f x) (evF f y)) (Nat.beq (ty t) 3)
 | .call c=>match c.callee with
  | .builtin .len=>match c.args.toList,c.argTypes.toList with
   | [x],[tt]=>match evF f x with
    | .slice _ n _=>zAc (some (.int .i64 (n:Int))) none (Nat.beq (ty tt) 1)
    |_=>none
   |_,_=>none
  |_=>none
 |_=>none
theorem vbin_ok {op:BinOp} {x y:Operand} {vx vy v:Value} (h:vbin op vx vy=some v) {xt:TypeId} {w:World}:((do eqGuard op xt x y vx vy; binOp op xt vx vy):Sem Value).run P w=.ok v w:=by
 have key:∀ {k k':IntKind} {r:Value},zAc (some r) none (decide (k=k'))=some v→k=k'∧v=r:=fun {k k' r} h=>by
  obtain ⟨h1,h2⟩:decide (k=k')=true∧some r=some v:=by
   rw[cond_ifV] at h
   split at h
   · rename_i h1; exact ⟨h1,h⟩
   · cases h
  exact ⟨of_decide_eq_true h1,(Option.some.inj h2).symm⟩
 unfold vbin at h
 split at h
 · obtain ⟨rfl,rfl⟩:=key h; simp[eqGuard,binOp,Op.intCmp]
 · obtain ⟨rfl,rfl⟩:=key h; simp[eqGuard,binOp,Op.intCmp]
 · obtain ⟨rfl,rfl⟩:=key h; simp[eqGuard,binOp,Op.intCmp]
 · obtain ⟨rfl,rfl⟩:=key h; simp[eqGuard,binOp,Op.intCmp]
 · obtain ⟨rfl,rfl⟩:=key h; simp[eqGuard,binOp,Op.intCmp]
 · obtain ⟨rfl,rfl⟩:=key h; simp[eqGuard,binOp,Op.intCmp]
 · cases h
theorem condN {b:Bool} {x:Option Value} {v:Value} (h:zAc x none b=some v):b=true∧x=some v:=by
 rw[cond_ifV] at h
 split at h
 · rename_i h1; exact ⟨h1,h⟩
 · cases h
theorem vnil_ok {ty:TypeId→Nat} (hty:TyOk P ty) {t:TypeId} (ht:ty t=2) {x:Operand} {b:Bool} {c v:Value} (h:vnil b c=some v) {w:World} :
 (∀ op,(eqGuard op t x (.const .nilIface) c .nilIface).run P w=.ok () w)∧∃ r,(binOp .eql t c .nilIface).run P w=.ok (.bool r) w∧(binOp .neq t c .nilIface).run P w=.ok (.bool (!r)) w∧v=.bool (zAc r (!r) b):=by
 letI:=tok0
 obtain ⟨ms,hd⟩:=hty.it t ht
 unfold vnil at h
 split at h
 · cases h
   refine ⟨fun op=>?_,true,?_⟩
   · cases op<;>simp[eqGuard]
   · have h1:(Op.equal t .nilIface .nilIface).run P w=.ok true w:=by rw[equal_eq]; simp[Op.equalIn,zAz hd]
     obtain ⟨h2,h3⟩:=binEq_run rfl h1
     exact ⟨h2,h3,by cases b<;>rfl⟩
 · rename_i tt vv
   cases h
   refine ⟨fun op=>zBs w (by simp) (by simp) op,false,?_⟩
   have h1:(Op.equal t (.iface tt vv) .nilIface).run P w=.ok false w:=by rw[equal_eq]; simp[Op.equalIn,zAz hd]
   obtain ⟨h2,h3⟩:=binEq_run rfl h1
   exact ⟨h2,h3,by cases b<;>rfl⟩
 · cases h
theorem vboo_ok {ty:TypeId→Nat} (hty:TyOk P ty) {t:TypeId} (ht:ty t=3) {x y:Operand} {b:Bool} {c d v:Value} (h:vboo b c d=some v) {w:World} :
 (∀ op,(eqGuard op t x y c d).run P w=.ok () w)∧∃ r,(binOp .eql t c d).run P w=.ok (.bool r) w∧(binOp .neq t c d).run P w=.ok (.bool (!r)) w∧v=.bool (zAc r (!r) b):=by
 letI:=tok0
 have hd:=hty.bo t ht
 unfold vboo at h
 split at h
 · rename_i p q
   cases h
   refine ⟨fun op=>zBs w (by simp) (by simp) op,(p == q),?_⟩
   have h1:(Op.equal t (.bool p) (.bool q)).run P w=.ok (p == q) w:=by rw[equal_eq]; simp[Op.equalIn,zAz hd]
   obtain ⟨h2,h3⟩:=binEq_run rfl h1
   exact ⟨h2,h3,rfl⟩
 · cases h
theorem vop_ok {ty:TypeId→Nat} (hty:TyOk P ty) {f:Nat→Value} {o:Oper} {v:Value} (h:vop ty f o.op=some v) {w:World}:(execOp (evF f) o).run P w=.ok (.value v) w:=by
 generalize ho:o.op=op at h
 unfold vop at h
 split at h
 · cases h; simp[execOp,ho]
 · cases h; simp[execOp,ho]
 · split at h
   · rename_i c a b t hc
     cases h
     cases t<;>simp[execOp,ho,hc,asBool,zAc]
   · cases h
 · split at h
   · rename_i x i vs hx
     simp[execOp,ho,hx,Instr.extract,h]
   · cases h
 · split at h
   · rename_i x t hx
     cases h
     simp[execOp,ho,hx,Op.unary]
   · cases h
 · rename_i t x yt
   obtain ⟨h1,h2⟩:=condN h
   obtain ⟨g,r,_,e2,rfl⟩:=vnil_ok hty (beq_true.1 h1) (x:=x) h2 (w:=w)
   simp only[execOp,ho]
   rw[Sem.run_bind,Sem.run_bind,show evF f (.const .nilIface)=.nilIface from rfl,g .neq,Result.andThen_ok,e2]
   cases r<;>rfl
 · rename_i t x yt
   obtain ⟨h1,h2⟩:=condN h
   obtain ⟨g,r,e1,_,rfl⟩:=vnil_ok hty (beq_true.1 h1) (x:=x) h2 (w:=w)
   simp only[execOp,ho]
   rw[Sem.run_bind,Sem.run_bind,show evF f (.const .nilIface)=.nilIface from rfl,g .eql,Result.andThen_ok,e1]
   cases r<;>rfl
 · rename_i op' t x y yt _ _
   rw[cond_ifV] at h
   split at h
   · rename_i h1
     split at h
     · obtain ⟨g,r,_,e2,rfl⟩:=vboo_ok hty (beq_true.1 h1) (x:=x) (y:=y) h (w:=w)
       simp only[execOp,ho]
       rw[Sem.run_bind,Sem.run_bind,g .neq,Result.andThen_ok,e2]
       cases r<;>rfl
     · obtain ⟨g,r,e1,_,rfl⟩:=vboo_ok hty (beq_true.1 h1) (x:=x) (y:=y) h (w:=w)
       simp only[execOp,ho]
       rw[Sem.run_bind,Sem.run_bind,g .eql,Result.andThen_ok,e1]
       cases r<;>rfl
     · cases h
   · have:=vbin_ok (P:=P) (x:=x) (y:=y) (xt:=t) (w:=w) h
     simp only[execOp,ho]
     rw[Sem.run_bind,this]
     rfl
 · rename_i c
   split at h
   · rename_i hc
     split at h
     · rename_i x tt ha ht
       split at h
       · rename_i b n cp hx
         obtain ⟨h1,h2⟩:ty tt=1∧some (Value.int .i64 (n:Int))=some v:=by
          rw[cond_ifV] at h
          split at h
          · rename_i h1; exact ⟨beq_true.1 h1,h⟩
          · cases h
         cases h2
         obtain ⟨e,hu⟩:=hty.sl tt h1
         have ha':c.args=#[x]:=by rw[← Array.toList_inj]; exact ha
         have ht':c.argTypes=#[tt]:=by rw[← Array.toList_inj]; exact ht
         simp[execOp,ho,resolve,hc,ha',ht',hx,invoke,builtin,Builtin.len_,run_underlying hu,goInt]
       · cases h
     · cases h
   · cases h
 · cases h
def vwant (ops:Array Oper) (f:Nat→Value):Option (Nat×Bool)→Option Bool
 |none=>some true
 |some (j,b)=>match (ops[j]?).bind (·.dst) with
  |some d=>match f d with
   | .bool c=>some (zAc b (not b) c)
   | .tuple _=>some false
   |_=>none
  |none=>none
theorem vwant_ok {nt:Nat} {ops:Array Oper} {f:Nat→Value} {a:Act} (ha:RF nt f a) {o:Oper} {r:Bool} (h:vwant ops f o.guard=some r):Region.wanted o (yielded ops a.tmps)=r:=by
 unfold Region.wanted
 unfold vwant at h
 split at h
 · rename_i hg; cases h; rw[hg]
 · rename_i j b hg
   rw[hg]
   show (yielded ops a.tmps j == some b)=r
   split at h
   · rename_i d hd
     split at h
     · rename_i c hc
       cases h
       have h1:=ha.reg d
       rw[hc,Array.getD_eq_getD_getElem?] at h1
       have h2:a.tmps[d]? = some (.bool c):=by
        cases hq:a.tmps[d]? with
        |none=>rw[hq] at h1; exact absurd h1 (by simp[undef])
        |some u=>rw[hq] at h1; simp at h1; rw[h1]
       have h3:yielded ops a.tmps j=some c:=by
        unfold yielded
        rw[hd]
        show (match (a.tmps[d]?:Option Value) with|some (.bool b)=>some b|_=>none)=_
        rw[h2]
       rw[h3]
       cases c<;>cases b<;>rfl
     · rename_i vs hc
       cases h
       have h1:=ha.reg d
       rw[hc,Array.getD_eq_getD_getElem?] at h1
       have h3:yielded ops a.tmps j=none:=by
        unfold yielded
        rw[hd]
        show (match (a.tmps[d]?:Option Value) with|some (.bool b)=>some b|_=>none)=_
        cases hq:a.tmps[d]? with
        |none=>rfl
        |some u=>rw[hq] at h1; simp at h1; rw[h1]
       rw[h3]; rfl
     · cases h
   · cases h
def vrun (nt:Nat) (ty:TypeId→Nat) (ops:Array Oper):List Oper→(Nat→Value)→Bool×(Nat→Value)
 | [],f=>(true,f)
 |o::l,f=>match o.dst with
  |none=>(false,f)
  |some d=>zAc (match vwant ops f o.guard with
   |none=>(false,f)
   |some false=>vrun nt ty ops l (upF f d undef)
   |some true=>match vop ty f o.op with
    |some v=>vrun nt ty ops l (upF f d v)
    |none=>(false,f)) (false,f) (Nat.blt d nt)
theorem vrun_ok {nt:Nat} {ty:TypeId→Nat} (hty:TyOk P ty) {ops:Array Oper} {Q:Exit→Act→World→Prop} {js:List Nat} {w:World}:∀ (l:List Oper) (i:Nat),(ops.toList.drop i).take l.length=l→∀ {f:Nat→Value} {a:Act},RF nt f a→(vrun nt ty ops l f).1=true→
 (∀ a',RF nt (vrun nt ty ops l f).2 a'→wpOps P ops Q js a' w)→wpOps P ops Q (List.range' i l.length++js) a w
 | [],i,_,f,a,ha,_,hn=>hn a ha
 |o::l,i,hd,f,a,ha,hv,hn=>by
  rw[List.length_cons] at hd
  have hoi:ops[i]? = some o:=by
   rw[← Array.getElem?_toList]
   have:=congrArg (fun l=>l[0]?) hd
   simpa[List.getElem?_take] using this
  have hd2:(ops.toList.drop (i+1)).take l.length=l:=by
   rw[← List.drop_drop]
   have:=congrArg (List.drop 1) hd
   rw[List.drop_take] at this
   simpa using this
  rw[List.length_cons,List.range'_succ,List.cons_append]
  unfold wpOps
  rw[hoi]
  simp only
  unfold vrun at hv hn
  cases hdst:o.dst with
  |none=>rw[hdst] at hv; cases hv
  |some d=>
   rw[hdst] at hv hn
   simp only[cond_ifV] at hv hn
   by_cases hlt:Nat.blt d nt=true
   rotate_left
   · rw[if_neg hlt] at hv; cases hv
   rw[if_pos hlt] at hv hn
   have hlt':d<nt:=by simpa[Nat.blt_eq] using hlt
   cases hw:vwant ops f o.guard with
   |none=>rw[hw] at hv; cases hv
   |some r=>
    rw[hw] at hv hn
    have hwant:=vwant_ok ha hw
    cases r with
    |false=>
     rw[hwant,if_neg (by decide)]
     exact vrun_ok hty l (i+1) hd2 (ha.put hlt' undef) hv hn
    |true=>
     rw[hwant,if_pos rfl]
     cases hop:vop ty f o.op with
     |none=>simp only[hop] at hv; cases hv
     |some v=>
      simp only[hop] at hv hn
      left
      unfold Oper.wp
      rw[ha.ev,vop_ok hty hop,Oper.upon_value,hdst]
      exact vrun_ok hty l (i+1) hd2 (ha.put hlt' v) hv hn
theorem vseg {nt:Nat} {ty:TypeId→Nat} (hty:TyOk P ty) {ops:Array Oper} {Q:Exit→Act→World→Prop} {js:List Nat} {w:World} {L:List (Nat×Value)} (L':List (Nat×Value)) (i:Nat) (l:List Oper) (hd:(ops.toList.drop i).take l.length=l)
 (hv:∀ g,(vrun nt ty ops l (setL L g)).1=true) (hL:∀ g,(L'.map fun p=>(vrun nt ty ops l (setL L g)).2 p.1)=L'.map Prod.snd) {a:Act} (ha:zAr nt L a) (hn:∀ a',zAr nt L' a'→wpOps P ops Q js a' w):wpOps P ops Q (List.range' i l.length++js) a w:=
 vrun_ok hty l i hd ha.rf (hv _) fun a' ha'=>hn a' (ha'.list (hL _))
end Go.AM
namespace Go.AM
variable {P:Program}
structure OpG (ops:Array Oper) (i d:Nat) (op:Op) (g:Option (Nat×Bool)):Prop where
 is:∃ o,ops[i]? = some o∧o.guard=g∧o.dst=some d∧o.op=op
theorem opG {ops:Array Oper} {i d:Nat} {op:Op} {g:Option (Nat×Bool)} (h1:ops[i]? = some ((ops[i]?).getD default)) (h2:((ops[i]?).getD default).guard=g) (h3:((ops[i]?).getD default).dst=some d) (h4:((ops[i]?).getD default).op=op):OpG ops i d op g:=⟨_,h1,h2,h3,h4⟩
theorem zAr.get {nt:Nat} {L:List (Nat×Value)} {a:Act} (h:zAr nt L a) {t:Nat} {v:Value} (hL:∀ f,setL L f t=v):a.tmps.getD t undef=v:=(h.rf.reg t).trans (hL _)
theorem zAr.sub {nt:Nat} {L L':List (Nat×Value)} {a:Act} (h:zAr nt L a) (hL:∀ f,(L'.map fun p=>setL L f p.1)=L'.map Prod.snd):zAr nt L' a:=h.rf.list (hL _)
theorem zAr.put {nt d:Nat} {L L':List (Nat×Value)} {a:Act} (h:zAr nt L a) (hd:d<nt) {v:Value} (hL:∀ f,(L'.map fun p=>upF (setL L f) d v p.1)=L'.map Prod.snd):zAr nt L' (a.put (some d) v):=(h.rf.put hd v).list (hL _)
theorem ZBc {ops:Array Oper} {Q:Exit→Act→World→Prop} {nt i d:Nat} {op:Op} {g:Option (Nat×Bool)} (h:OpG ops i d op g) {js:List Nat} {w w':World} {L:List (Nat×Value)} (L':List (Nat×Value)) {a:Act} (ha:zAr nt L a) (hd:d<nt) (hg:∀ f,vwant ops (setL L f) g=some true) {v:Value}
 (hx:∀ o:Oper,o.op=op→(execOp a.eval o).run P w=.ok (.value v) w') (hL:∀ f,(L'.map fun p=>upF (setL L f) d v p.1)=L'.map Prod.snd) (hn:∀ a',zAr nt L' a'→wpOps P ops Q js a' w'):wpOps P ops Q (i::js) a w:=by
 obtain ⟨o,h1,h2,h3,h4⟩:=h.is
 unfold wpOps
 rw[h1]
 simp only
 rw[vwant_ok ha.rf (by rw[h2]; exact hg _),if_pos rfl]
 left
 unfold Oper.wp
 rw[hx o h4,Oper.upon_value,h3]
 exact hn _ (ha.put hd hL)
structure CallG (ops:Array Oper) (i d:Nat) (f:FuncId) (xs:List Operand) (g:Option (Nat×Bool)):Prop where
 is:∃ o,ops[i]? = some o∧o.guard=g∧o.dst=some d∧callOf o.op=some (.value (.func f),xs)
theorem callG {ops:Array Oper} {i d:Nat} {f:FuncId} {xs:List Operand} {g:Option (Nat×Bool)} (h1:ops[i]? = some ((ops[i]?).getD default)) (h2:((ops[i]?).getD default).guard=g) (h3:((ops[i]?).getD default).dst=some d) (h4:callOf ((ops[i]?).getD default).op=some (.value (.func f),xs)):CallG ops i d f xs g:=⟨_,h1,h2,h3,h4⟩
theorem callG_run {o:Oper} {f:FuncId} {xs:List Operand} (h:callOf o.op=some (.value (.func f),xs)) {a:Act} {w:World}:(execOp a.eval o).run P w=(callFunc f (xs.map a.eval).toArray).run P w:=by
 cases ho:o.op<;>first|(rw[ho] at h; cases h; done)|skip
 rename_i c
 rw[ho] at h
 simp only[callOf,Option.some.injEq,Prod.mk.injEq] at h
 obtain ⟨h1,h2⟩:=h
 have h3:c.args=xs.toArray:=by rw[← h2]
 have e:(fun x:Operand=>a.eval x)=a.eval:=rfl
 have h4:c.args.map a.eval=(xs.map a.eval).toArray:=by rw[h3]; simp
 simp[execOp,ho,resolve,h1,h4,Act.eval,Deferred.ofValue,invoke]
theorem vcall {ops:Array Oper} {Q:Exit→Act→World→Prop} {nt i d:Nat} {f:FuncId} {xs:List Operand} {g:Option (Nat×Bool)} (h:CallG ops i d f xs g) {js:List Nat} {w:World} {L:List (Nat×Value)} (L':Value→List (Nat×Value)) {a:Act} (ha:zAr nt L a) (hd:d<nt) (hg:∀ f,vwant ops (setL L f) g=some true)
 {args:List Value} (hargs:∀ f,xs.map (evF (setL L f))=args) {R':Value→World→Prop} (hE:Ends P f args.toArray w R') (hL:∀ c f,((L' c).map fun p=>upF (setL L f) d c p.1)=(L' c).map Prod.snd) (hn:∀ c a' w',R' c w'→zAr nt (L' c) a'→wpOps P ops Q js a' w'):wpOps P ops Q (i::js) a w:=by
 obtain ⟨o,h1,h2,h3,h4⟩:=h.is
 unfold wpOps
 rw[h1]
 simp only
 rw[vwant_ok ha.rf (by rw[h2]; exact hg _),if_pos rfl]
 left
 letI:=tok0
 have he:xs.map a.eval=args:=by rw[ha.rf.ev]; exact hargs _
 exact ends_wp (callG_run h4) (by rw[he]; exact hE) fun c w' hR=>by rw[h3]; exact hn c _ w' hR (ha.put hd (hL c))
theorem upon_chg {o:Oper} {a:Act} {N N':Act→World→Prop} {Q Q':Exit→Act→World→Prop} (h:∀ a' w',(∃ v,a'.tmps=(a.put o.dst v).tmps)→N a' w'→N' a' w') (hp:∀ c a w,Q (.panic c) a w→Q' (.panic c) a w) (ho:LetsOut Q→LetsOut Q') {r:Result Next} (hh:o.upon P a N Q r):o.upon P a N' Q' r:=by
 cases r with
 |ok n w'=>
  cases n<;>simp only[Oper.upon] at hh ⊢
  case value v=>exact h _ _ ⟨v,rfl⟩ hh
  case skip=>exact h _ _ ⟨undef,rfl⟩ hh
  case defer d=>exact h _ _ ⟨undef,by cases o.dst<;>rfl⟩ hh
  case enter f args=>exact Calls.mono hh (fun e w'' he=>by cases e<;>first|exact h _ _ ⟨_,rfl⟩ he|exact hp _ _ _ he|exact ho he)
  case row row args=>exact Rows.mono hh (fun v w'' he=>h _ _ ⟨v,rfl⟩ he)
 |halt x w'=>
  cases x<;>simp only[Oper.upon] at hh ⊢
  case panic v=>exact hp _ _ _ hh
theorem put_tmps_other {a:Act} {o:Option Nat} {v:Value} {t:Nat} (h:o≠some t):(a.put o v).tmps.getD t undef=a.tmps.getD t undef:=by
 cases o with
 |none=>rfl
 |some d=>
  have hne:¬ d=t:=fun e=>h (by rw[e])
  simp[Act.put,Array.getD_eq_getD_getElem?,hne]
theorem frame_ops {ops:Array Oper} {K K':Act→World→Prop} {Q:Exit→Act→World→Prop}:∀ (l:List Nat) {a:Act} {w:World},wpOps P ops (Exit.then K Q) l a w→
 (∀ a' w',(∀ t,(∀ i,i∈l→∀ o,ops[i]? = some o→o.dst≠some t)→a'.tmps.getD t undef=a.tmps.getD t undef)→K a' w'→K' a' w')→wpOps P ops (Exit.then K' Q) l a w
 | [],a,w,h,hk=>hk a w (fun _ _=>rfl) h
 |i::l,a,w,h,hk=>by
  have step:∀ (a1:Act) (w1:World),(∀ t,(∀ o,ops[i]? = some o→o.dst≠some t)→a1.tmps.getD t undef=a.tmps.getD t undef)→wpOps P ops (Exit.then K Q) l a1 w1→wpOps P ops (Exit.then K' Q) l a1 w1:=fun a1 w1 h1 h2=>
   frame_ops l h2 fun a' w' h3 h4=>hk a' w' (fun t ht=>(h3 t fun j hj=>ht j (List.mem_cons_of_mem _ hj)).trans (h1 t (ht i (List.mem_cons_self ..)))) h4
  unfold wpOps at h ⊢
  cases hi:ops[i]? with
  |none=>
   rw[hi] at h
   exact step a w (fun _ _=>rfl) h
  |some o=>
   rw[hi] at h
   simp only at h ⊢
   have put:∀ (v:Value) (t:Nat),(∀ o',ops[i]? = some o'→o'.dst≠some t)→(a.put o.dst v).tmps.getD t undef=a.tmps.getD t undef:=fun v t ht=>put_tmps_other (ht o hi)
   split
   · rename_i hw
     rw[if_pos hw] at h
     rcases h with h|⟨h1,h2⟩
     · left
       exact upon_chg (fun a' w' ⟨v,hv⟩ hN=>step a' w' (fun t ht=>by rw[hv]; exact put v t ht) hN) (fun c a w h=>h) (fun h=>h) h
     · exact .inr ⟨h1,h2⟩
   · rename_i hw
     rw[if_neg hw] at h
     exact step _ w (put undef) h
theorem ops_app {ops:Array Oper} {Q:Exit→Act→World→Prop} {js:List Nat}:∀ (l:List Nat) {a:Act} {w:World},wpOps P ops (Exit.then (wpOps P ops Q js) Q) l a w→wpOps P ops Q (l++js) a w
 | [],a,w,h=>h
 |i::l,a,w,h=>by
  rw[List.cons_append]
  unfold wpOps at h ⊢
  cases hi:ops[i]? with
  |none=>
   rw[hi] at h
   exact ops_app l h
  |some o=>
   rw[hi] at h
   simp only at h ⊢
   split
   · rename_i hw
     rw[if_pos hw] at h
     rcases h with h|⟨h1,h2⟩
     · left
       exact upon_chg (fun a' w' _ hN=>ops_app l hN) (fun c a w h=>h) (fun h=>h) h
     · exact .inr ⟨h1,h2⟩
   · rename_i hw
     rw[if_neg hw] at h
     exact ops_app l h
def keptR (os:List Oper) (t:Nat):Bool:=os.all fun o=>match o.dst with
 |some d=>not (Nat.beq d t)
 |none=>true
theorem vam {T:Tok} {K:KH} (hK:@zBb T P K) {nt:Nat} {ops:Array Oper} {Q:Exit→Act→World→Prop} (i:Nat) (os:List Oper) {js:List Nat} (hd:(ops.toList.drop i).take os.length=os) (hg:os.all (ZBo P.globals.size)=true) {l:List (Nat×AVal)} {ts:List Nat} {vs:List AVal} {m mf:Mem}
 (h:zCg P nt K ops os l ts m=.ok (.tuple vs) mf) {φ:Phi} {w:World} {a:Act} (hr:@Rel T P φ m w) (hnt:nt≤4096) {L:List (Nat×Value)} (ha:zAr nt L a) (hl:∀ p,p∈l→p.1<4096∧@VRel T φ p.2 (a.tmps.getD p.1 undef)) (L':List (Nat×Value)) (hk:(L'.all fun p=>keptR os p.1)=true)
 (hsub:∀ f,(L'.map fun p=>setL L f p.1)=L'.map Prod.snd)
 (hn:∀ φ' a' w',@Step T P φ m w φ' mf w'→zAr nt L' a'→@zAa T φ' vs (zCe ts a')→wpOps P ops Q js a' w'):wpOps P ops Q (List.range' i os.length++js) a w:=by
 refine ops_app _ (frame_ops (K:=fun a' w'=>∃ φ',@Step T P φ m w φ' mf w'∧zBc nt a'∧@zAa T φ' vs (zCe ts a')) _ ?_ ?_)
 · have:=@ZCc P T K hK nt ops (Exit.then (fun a' w'=>∃ φ',@Step T P φ m w φ' mf w'∧zBc nt a'∧@zAa T φ' vs (zCe ts a')) Q) i os [] hd hg l ts vs m mf h φ w a hr ha.is hnt hl (fun φ' a' w' hst ha' hv=>by
    unfold wpOps
    exact ⟨φ',hst,ha',hv⟩)
   rwa [List.append_nil] at this
 · rintro a' w' hfr ⟨φ',hst,ha',hv⟩
   refine hn φ' a' w' hst ⟨ha',fun p hp=>?_⟩ hv
   have hL':=ha.sub hsub
   rw[← hL'.reg p hp]
   refine hfr p.1 fun j hj o ho hdst=>?_
   have hkp:=List.all_eq_true.1 hk p hp
   unfold keptR at hkp
   have hmem:o∈os:=by
    rw[List.mem_range'_1] at hj
    rw[← hd]
    have h1:ops.toList[j]? = some o:=by rw[Array.getElem?_toList]; exact ho
    refine List.mem_of_getElem? (i:=j-i) ?_
    rw[List.getElem?_take,if_pos (by omega),List.getElem?_drop,show i+(j-i)=j by omega]
    exact h1
   have:=List.all_eq_true.1 hkp o hmem
   rw[hdst] at this
   simp only at this
   rw[beq_true.2 rfl] at this
   cases this
end Go.AM
namespace Go.AM
variable {P:Program}
theorem frame_any {ops:Array Oper} {md:Region.Mode} {Q Q':Exit→Act→World→Prop} (hp:∀ c a w,Q (.panic c) a w→Q' (.panic c) a w) (ho:LetsOut Q→LetsOut Q'):∀ (fuel:Nat) (L:Array Bool) {a:Act} {w:World},wpAny P md ops Q fuel L a w→
 (∀ a' w',(∀ t,(∀ (i:Nat) (o:Oper),ops[i]? = some o→o.dst≠some t)→a'.tmps.getD t undef=a.tmps.getD t undef)→Q .normal a' w'→Q' .normal a' w')→wpAny P md ops Q' fuel L a w
 |0,L,a,w,h,hk=>⟨h.1,hk a w (fun _ _=>rfl) h.2⟩
 |fuel+1,L,a,w,h,hk=>by
  refine ⟨fun hr=>hk a w (fun _ _=>rfl) (h.1 hr),fun i hi=>?_⟩
  have h2:=h.2 i hi
  have step:∀ (a1:Act) (w1:World),(∀ t,(∀ o,ops[i]? = some o→o.dst≠some t)→a1.tmps.getD t undef=a.tmps.getD t undef)→wpAny P md ops Q fuel (L.setIfInBounds i true) a1 w1→wpAny P md ops Q' fuel (L.setIfInBounds i true) a1 w1:=fun a1 w1 h1 h2=>
   frame_any hp ho fuel _ h2 fun a' w' h3 h4=>hk a' w' (fun t ht=>(h3 t ht).trans (h1 t fun o ho=>ht i o ho)) h4
  unfold wpOp at h2 ⊢
  cases hoi:ops[i]? with
  |none=>
   rw[hoi] at h2
   exact step a w (fun _ _=>rfl) h2
  |some o=>
   rw[hoi] at h2
   simp only at h2 ⊢
   have put:∀ (v:Value) (t:Nat),(∀ o',ops[i]? = some o'→o'.dst≠some t)→(a.put o.dst v).tmps.getD t undef=a.tmps.getD t undef:=fun v t ht=>put_tmps_other (ht o hoi)
   split
   · rename_i hw
     rw[if_pos hw] at h2
     rcases h2 with h2|⟨h3,h4⟩
     · left
       exact upon_chg (fun a' w' ⟨v,hv⟩ hN=>step a' w' (fun t ht=>by rw[hv]; exact put v t ht) hN) hp ho h2
     · exact .inr ⟨h3,ho h4⟩
   · rename_i hw
     rw[if_neg hw] at h2
     exact step _ w (put undef) h2
theorem region_cutL (hm:P.follows .mixedOrders=true) {T:Tok} {K:KH} (hK:@zBb T P K) {nt n:Nat} {ops pre:Array Oper} (hcut:cutOk ops pre n=true) (hpre:∀ i,i<n→pre[i]? = ops[i]?) (hg:pre.toList.all (ZBo P.globals.size)=true) {l:List (Nat×AVal)} {ts:List Nat} {vs:List AVal} {m mf:Mem}
 (h:preRun P nt K pre l ts m=.ok (.tuple vs) mf) {φ:Phi} {w:World} {a:Act} {Q:Exit→Act→World→Prop} (hr:@Rel T P φ m w) (hnt:nt≤4096) {L:List (Nat×Value)} (ha:zAr nt L a) (hl:∀ p,p∈l→p.1<4096∧@VRel T φ p.2 (a.tmps.getD p.1 undef)) (L':List (Nat×Value)) (hk:(L'.all fun p=>keptR pre.toList p.1)=true)
 (hsub:∀ f,(L'.map fun p=>setL L f p.1)=L'.map Prod.snd)
 (hn:∀ φ' a' w',@Step T P φ m w φ' mf w'→zAr nt L' a'→@zAa T φ' vs (zCe ts a')→wpAny P .any ops Q (ops.size-n) (Array.replicate n true++Array.replicate (ops.size-n) false) a' w') {id:Nat}:(Code.region id ops true).wp P Q a w:=by
 unfold cutOk at hcut
 simp only[Bool.and_eq_true,beq_true,zAd] at hcut
 obtain ⟨⟨⟨⟨h1,h2⟩,h3⟩,h4⟩,h5⟩:=hcut
 rw[List.all_eq_true] at h3 h5
 have hlin:=@lin_ok tok0 _ _ h4
 obtain ⟨_,hany0⟩:=@draw_any P T K hK nt pre hg _ _ _ _ _ h φ w a (Exit.then (fun a' w'=>∃ φ',@Step T P φ m w φ' mf w'∧zBc nt a'∧@zAa T φ' vs (zCe ts a')) Q) hr (@pick_rel T _ _ _ ha.is hnt _ hl) (fun φ' r' m' a' w' hst ha' h1=>by
  have h4:R.ok (.tuple (ts.map fun t=>(opd (.tmp t)).get r')) m'=.ok (.tuple vs) mf:=h1
  injection h4 with h5 h6
  injection h5 with h5
  subst h5
  subst h6
  exact ⟨φ',hst,@RRel.is T _ _ _ _ ha',@out_rel T _ _ _ _ ha' ts⟩)
 have hany:wpAny P .any pre (cutQ P ops n (ops.size-n) Q) pre.size (Array.replicate pre.size false) a { w with drawn:=w.drawn+1 }:=by
  refine frame_any (Q:=Exit.then (fun a' w'=>∃ φ',@Step T P φ m w φ' mf w'∧zBc nt a'∧@zAa T φ' vs (zCe ts a')) Q) (Q':=cutQ P ops n (ops.size-n) Q) (fun c a w h=>h) (fun h=>h) _ _ hany0 ?_
  rintro a' w' hfr ⟨φ',hst,ha',hv⟩ L hL
  have e:L=Array.replicate n true++Array.replicate (ops.size-n) false:=by
   refine Array.ext (by rw[hL.size]; simp; omega) fun i hi1 hi2=>?_
   have key:∀ b,L.getD i false=b→L[i]=b:=fun b hb=>by rw[← hb]; simp[hi1]
   rw[Array.getElem_append]
   split
   · rename_i hlt
     exact key _ ((hL.lo i (by simpa using hlt)).trans (by simp))
   · rename_i hge
     exact key _ ((hL.hi i (by simpa using hge)).trans (by simp))
  rw[e]
  refine hn φ' a' w' hst ⟨ha',fun p hp=>?_⟩ hv
  have hL':=ha.sub hsub
  rw[← hL'.reg p hp]
  refine hfr p.1 fun j o ho hdst=>?_
  have hkp:=List.all_eq_true.1 hk p hp
  unfold keptR at hkp
  have:=List.all_eq_true.1 hkp o (Array.mem_toList_iff.2 (Array.mem_of_getElem? ho))
  rw[hdst] at this
  simp only at this
  rw[beq_true.2 rfl] at this
  cases this
 have rep:∀ s j:Nat,(Array.replicate s false).getD j false=false:=fun s j=>by
  rw[Array.getD_eq_getD_getElem?,Array.getElem?_replicate]; split<;>rfl
 refine wp_region_any hm ?_
 have:=any_cut (Q:=Q) (r:=ops.size-n) hlin h1 h2 hpre (fun i o ho=>by
  have:=h3 o (Array.mem_toList_iff.2 (Array.mem_of_getElem? ho))
  cases hg:o.guard with
  |none=>rfl
  |some g=>rw[hg] at this; cases this) (fun j hj hjs i hi=>by
  have:=h5 j (List.mem_range.2 hjs)
  rw[Bool.or_eq_true] at this
  rcases this with h6|h6
  · rw[Nat.blt_eq] at h6; omega
  · exact (List.all_eq_true.1 h6) i (List.mem_range.2 hi)) pre.size (L':=Array.replicate ops.size false) (by simp[h1]) (by simp) (fun i hi=>by rw[rep,rep]) (fun j hj=>rep _ _) (fun i hi hf=>by rw[rep] at hf; cases hf) hany
 rwa [show pre.size+(ops.size-n)=ops.size by omega] at this
def LHf (ops:Array Oper):Nat→Array Bool
 |0=>Array.replicate ops.size false
 |k+1=>(LHf ops k).setIfInBounds k true
def okH (ops:Array Oper) (i n:Nat):Bool:=(List.range' i n).all fun j=>Region.free .any ops (LHf ops j) j&&(Region.ready .any ops (LHf ops j)).contains j
theorem put_defersX (a:Act) (d:Option Nat) (v:Value):(a.put d v).defers=a.defers:=by cases d<;>rfl
def PanicF (Q:Exit→Act→World→Prop):Prop:=∀ c a a' w,a.defers=a'.defers→Q (.panic c) a w→Q (.panic c) a' w
section
variable {nt:Nat} {ty:TypeId→Nat} {ops:Array Oper} {Q:Exit→Act→World→Prop} {S:World→Prop} {w:World}
theorem hrun_ok (hty:TyOk P ty) (hs:Region.noSelect ops=true) (hQ:PanicF Q) (hS:S w) {fuel:Nat}:∀ (l:List Oper) (i:Nat),(ops.toList.drop i).take l.length=l→okH ops i l.length=true→∀ {f:Nat→Value} {a:Act},RF nt f a→(vrun nt ty ops l f).1=true→
 (∀ a',RF nt (vrun nt ty ops l f).2 a'→wpAnyH P .any ops Q S fuel (LHf ops (i+l.length)) a' w)→wpAnyH P .any ops Q S (l.length+fuel) (LHf ops i) a w
 | [],i,_,_,f,a,ha,_,hn=>by
  have:=hn a ha
  rw[List.length_nil,Nat.add_zero] at this
  rw[List.length_nil,Nat.zero_add]; exact this
 |o::l,i,hd,hok,f,a,ha,hv,hn=>by
  rw[List.length_cons] at hd hok hn
  have hoi:ops[i]? = some o:=by
   rw[← Array.getElem?_toList]
   have:=congrArg (fun l=>l[0]?) hd
   simpa[List.getElem?_take] using this
  have hd2:(ops.toList.drop (i+1)).take l.length=l:=by
   rw[← List.drop_drop]
   have:=congrArg (List.drop 1) hd
   rw[List.drop_take] at this
   simpa using this
  unfold okH at hok
  rw[List.range'_succ,List.all_cons,Bool.and_eq_true,Bool.and_eq_true] at hok
  obtain ⟨⟨hf,hr⟩,hok2⟩:=hok
  rw[List.length_cons,show l.length+1+fuel=(l.length+fuel)+1 by omega]
  have hn':∀ a',RF nt (vrun nt ty ops (o::l) f).2 a'→wpAnyH P .any ops Q S fuel (LHf ops (i+1+l.length)) a' w:=fun a' ha'=>by
   have:=hn a' ha'
   rwa [show i+(l.length+1)=i+1+l.length by omega] at this
  unfold vrun at hv hn'
  cases hdst:o.dst with
  |none=>rw[hdst] at hv; cases hv
  |some d=>
   rw[hdst] at hv hn'
   simp only[cond_ifV] at hv hn'
   by_cases hlt:Nat.blt d nt=true
   rotate_left
   · rw[if_neg hlt] at hv; cases hv
   rw[if_pos hlt] at hv hn'
   have hlt':d<nt:=by simpa[Nat.blt_eq] using hlt
   cases hw:vwant ops f o.guard with
   |none=>rw[hw] at hv; cases hv
   |some r=>
    rw[hw] at hv hn'
    have hwant:=vwant_ok ha hw
    cases r with
    |false=>
     refine wpAnyH_take (v:=undef) hoi hs hf hr (fun c a w h=>hQ c _ _ w (put_defersX a o.dst _) h) (.inr ⟨hwant,rfl⟩) hS ?_
     rw[hdst]
     exact hrun_ok hty hs hQ hS l (i+1) hd2 hok2 (ha.put hlt' undef) hv hn'
    |true=>
     cases hop:vop ty f o.op with
     |none=>simp only[hop] at hv; cases hv
     |some v=>
      simp only[hop] at hv hn'
      refine wpAnyH_take (v:=v) hoi hs hf hr (fun c a w h=>hQ c _ _ w (put_defersX a o.dst _) h) (.inl ⟨hwant,fun w _=>by rw[ha.ev]; exact vop_ok hty hop⟩) hS ?_
      rw[hdst]
      exact hrun_ok hty hs hQ hS l (i+1) hd2 hok2 (ha.put hlt' v) hv hn'
theorem hseg (hty:TyOk P ty) (hs:Region.noSelect ops=true) (hQ:PanicF Q) (hS:S w) {fuel:Nat} {L:List (Nat×Value)} (L':List (Nat×Value)) (i:Nat) (l:List Oper) (hd:(ops.toList.drop i).take l.length=l) (hok:okH ops i l.length=true)
 (hv:∀ g,(vrun nt ty ops l (setL L g)).1=true) (hL:∀ g,(L'.map fun p=>(vrun nt ty ops l (setL L g)).2 p.1)=L'.map Prod.snd) {a:Act} (ha:zAr nt L a) (hn:∀ a',zAr nt L' a'→wpAnyH P .any ops Q S fuel (LHf ops (i+l.length)) a' w):wpAnyH P .any ops Q S (l.length+fuel) (LHf ops i) a w:=
 hrun_ok hty hs hQ hS l i hd hok ha.rf (hv _) fun a' ha'=>hn a' (ha'.list (hL _))
theorem hhand {i d:Nat} {op:Op} {g:Option (Nat×Bool)} (h:OpG ops i d op g) (hs:Region.noSelect ops=true) (hQ:PanicF Q) (hok:okH ops i 1=true) (hS:S w) {fuel:Nat} {L:List (Nat×Value)} (L':List (Nat×Value)) {a:Act} (ha:zAr nt L a) (hd:d<nt) (hg:∀ f,vwant ops (setL L f) g=some true) {v:Value}
 (hx:∀ (o:Oper) (w:World),S w→o.op=op→(execOp a.eval o).run P w=.ok (.value v) w) (hL:∀ f,(L'.map fun p=>upF (setL L f) d v p.1)=L'.map Prod.snd) (hn:∀ a',zAr nt L' a'→wpAnyH P .any ops Q S fuel (LHf ops (i+1)) a' w):wpAnyH P .any ops Q S (fuel+1) (LHf ops i) a w:=by
 obtain ⟨o,h1,h2,h3,h4⟩:=h.is
 unfold okH at hok
 rw[List.range'_succ,List.all_cons,Bool.and_eq_true,Bool.and_eq_true] at hok
 obtain ⟨⟨hf,hr⟩,_⟩:=hok
 refine wpAnyH_take (v:=v) h1 hs hf hr (fun c a w h=>hQ c _ _ w (put_defersX a o.dst _) h) (.inl ⟨vwant_ok ha.rf (by rw[h2]; exact hg _),fun w hw=>hx o w hw h4⟩) hS ?_
 rw[h3]
 exact hn _ (ha.put hd hL)
theorem hcall {i d:Nat} {f:FuncId} {xs:List Operand} {g:Option (Nat×Bool)} (h:CallG ops i d f xs g) (hr:Region.ready .any ops (LHf ops i)=[i]) {fuel:Nat} {L:List (Nat×Value)} (L':Value→List (Nat×Value)) {a:Act} (ha:zAr nt L a) (hd:d<nt) (hg:∀ f,vwant ops (setL L f) g=some true)
 {args:List Value} (hargs:∀ f,xs.map (evF (setL L f))=args) {R':Value→World→Prop} (hE:Ends P f args.toArray w R') (hL:∀ c f,((L' c).map fun p=>upF (setL L f) d c p.1)=(L' c).map Prod.snd) (hn:∀ c a' w',R' c w'→zAr nt (L' c) a'→S w'∧wpAnyH P .any ops Q S fuel (LHf ops (i+1)) a' w'):wpAnyH P .any ops Q S (fuel+1) (LHf ops i) a w:=by
 obtain ⟨o,h1,h2,h3,h4⟩:=h.is
 refine wpAnyH_all hr (by simp) fun j hj=>?_
 rw[List.mem_singleton] at hj
 subst hj
 unfold wpOp
 rw[h1]
 simp only
 rw[vwant_ok ha.rf (by rw[h2]; exact hg _),if_pos rfl]
 left
 letI:=tok0
 have he:xs.map a.eval=args:=by rw[ha.rf.ev]; exact hargs _
 exact ends_wp (callG_run h4) (by rw[he]; exact hE) fun c w' hR=>by rw[h3]; exact hn c _ w' hR (ha.put hd (hL c))
end
end Go.AM
namespace Go.AM
open Go.Proofs
def wayEq (q md:Nat):AVal:=zAc (.slice q 0 1 1 true 3) .nilslice (Nat.beq md 3)
def wayL (q md:Nat):List AVal:=
 appV [.int .i64 (.ofNat 0),wayEq q md] (appV (zAc [.int .i64 2,.opq 12,.str []] [.int .i64 (.ofNat 0),.int .i64 (.ofNat 0),.str []] (or (Nat.beq md 0) (Nat.beq md 2)))
  (appV (zAc [.int .i64 2,.opq 13,.str []] [.int .i64 (.ofNat 0),.int .i64 (.ofNat 0),.str []] (or (Nat.beq md 1) (Nat.beq md 2))) [.bool (or (Nat.beq md 0) (Nat.beq md 2)),.bool (or (Nat.beq md 1) (Nat.beq md 2))]))
def eqL (md:Nat):List Blk:=zAc [.cells true [.int .i64 2,.opq 11,.str []]] [] (Nat.beq md 3)
def raRegs (n md:Nat):List (Nat×AVal):=[(0,.ptr 3 0),(1,.int .i64 (.ofNat 0)),(2,.agg (wayL (mAtW n) md))]
def XR (md:Nat):Stand:=fun f=>match f with
 |36=>zAc (some ⟨keyXW false⟩) none (Nat.beq md 3)
 |_=>none
def rkTail (n:Nat) (l:List Blk):List Blk:=
 match n with
 |0=>l
 |k+1=>.none::ZCa (valsWL (natL (Nat.succ k) 0)) l
def boxW:Blk:=.cells true [.int .i64 (.ofNat 0),.any,.any,.any,.any,.any,.any,.any,.any,.any]
def boxX:Blk:=.cells true [.any,.any,.slice 7 0 2 2 false 4]
def boxK:Blk:=.cells true [.map 8,.any,.any,.any]
def keyQA (x y:AVal):Blk:=.cells true [x,.slice 10 0 2 2 false 1,.bool false,y,.any,.any,.any,.any]
def rkL (n:Nat) (x y:AVal):List Blk:=
 .none::.none::.none::.none::keyQA x y::.map (entW 13 (natL n 0)) n::.none::.cells true [.int .i64 (.ofNat 0),.int .i64 (.ofNat 1)]::.none::rkTail n [boxW,boxX,boxK]
def roNs (n nw nx nk:Nat):List Nat:=appNs (swNs9 n) [nw,nx,nk]
def rsL (md:Nat):List Blk:=zAc [.cells true (wayL 5 md),.cells false [.opq 1,.slice 7 0 9 9 false 1,.bool false],.cells true [.int .i64 2,.opq 11,.str []],.cells true (oqs 9 20),.cells true (oqs 9 20)]
 [.cells true (wayL 5 md),.cells false [.opq 1,.nilslice,.bool false]] (Nat.beq md 3)
def rsNs (q md nw nc nf nk:Nat):List Nat:=zAc [nw,nc,q,nf,nk] [nw,nc] (Nat.beq md 3)
def fromA (md:Nat):AVal:=zAc (.slice 6 0 9 9 false 1) .nilslice (Nat.beq md 3)
def raEnd (n md:Nat) (vs:List AVal) (m:Mem):Bool:=
 match vs with
 | [x5,x8,x9,x11,x13,x14]=>
  and (and (and (freshN (nmOf x14) (roNs n (nmOf x5) (nmOf x8) (nmOf x9))) (zipB (absN (mapW 2 n (roNs n (nmOf x5) (nmOf x8) (nmOf x9))) 4) [.ptr (mAtW n) 0,.ptr (Nat.add (mAtW n) 1) 0,.ptr (Nat.add (mAtW n) 2) 0] [x5,x8,x9]))
   (zAp (mapW 2 n (roNs n (nmOf x5) (nmOf x8) (nmOf x9))) 0 b00 (rkL n .any .any) m))
   (and (and (aeqN 2 x13 .nilslice) (zipB (absN (zAx 2 (rsNs (mAtW n) md (nmOf x5) (nmOf x14) (nmOf x11) (nmOf (zBq m (nmOf x14) 1)))) 4) [.ptr 3 0,.ptr 4 0,fromA md] [x5,x14,x11]))
    (zAp (zAx 2 (rsNs (mAtW n) md (nmOf x5) (nmOf x14) (nmOf x11) (nmOf (zBq m (nmOf x14) 1)))) 0 b00 (rsL md) m))
 |_=>false
def raRun (P:Program) (K:KH) (cs:List Code) (n md:Nat):Bool:=
 match zBv P 144 K cs ⟨true,fun _=>false,false⟩ (raRegs n md) [5,8,9,11,13,14] (zAe 2 0 b00 (swL n (eqL md))) with
 | .ok (.tuple vs) m=>raEnd n md vs m
 |_=>false
def lkRegs (n j:Nat):List (Nat×AVal):=[(5,.ptr (mAtW n) 0),(8,.ptr (Nat.add (mAtW n) 1) 0),(9,.ptr (Nat.add (mAtW n) 2) 0),(18,.sym .u64 j)]
def keyA0:AVal:=.agg [.opq 30,.slice 10 0 2 2 false 1,.bool false,.opq 31]
def ZCk (n:Nat):List Nat:=natL (Nat.sub (Nat.add (mAtW n) 3) 3) 3
def lkRun (P:Program) (K:KH) (pre:Array Oper) (n j:Nat):Bool:=
 match preRun P 144 K pre (lkRegs n j) [120,124] (zAe 2 0 b00 (rkL n (.opq 30) (.opq 31))) with
 | .ok (.tuple vs) m=>and (zipB (absN (mapW 40 n (ZCk n)) 4) [keyA0,.slice (Nat.add 13 j) 0 2 2 false 3] vs) (zAp (mapW 40 n (ZCk n)) 0 b00 (rkL n (.opq 30) (.opq 31)) m)
 |_=>false
def cvRun (P:Program) (K:KH) (O:Array Oper) (n j:Nat):Bool:=
 match zCg P 144 K O (zBl 5 (ZAe 2 O.toList)) (lkRegs n j) [137] (zAe 2 0 b00 (rkL n (.opq 30) (.opq 31))) with
 | .ok (.tuple [x]) m=>and (and (absN (mapW 40 n (appNs (ZCk n) [nmOf x])) 4 (.slice (Nat.add (mAtW n) 3) 0 2 2 false 3) x) (Nat.ble (zAe 2 0 b00 (rkL n (.opq 30) (.opq 31))).next (nmOf x))) (zAp (mapW 40 n (appNs (ZCk n) [nmOf x])) 0 b00 (ZCa (rkL n (.opq 30) (.opq 31)) [.cells true (valW j)]) m)
 |_=>false
def outA (m:Nat):AVal:=match m with
 |0=>.nilslice
 |k+1=>.slice 3 0 (Nat.succ k) (Nat.succ k) false 2
def outL (m:Nat):List Blk:=match m with
 |0=>[]
 |k+1=>[.cells false (oqs (Nat.mul 2 (Nat.succ k)) 100)]
def apRun (P:Program) (K:KH) (O:Array Oper) (m:Nat):Bool:=
 match zCg P 144 K O (ZAe 7 O.toList) [(131,outA m),(132,.opq 10),(137,.opq 11)] [13] (zAe 2 0 .none (outL m)) with
 | .ok (.tuple [x]) mf=>and (absN (zAx 2 [nmOf x]) 4 (.slice 3 0 (Nat.succ m) (Nat.succ m) false 2) x) (zAp (zAx 2 [nmOf x]) 0 .none [.cells false (appV (oqs (Nat.mul 2 m) 100) [.opq 10,.opq 11])] mf)
 |_=>false
def nextWX (found ab:Bool) (args:List AVal) (mem:Mem):R:=
 onL (.fail 210) (fun a rest=>arg2 rest fun s b=>match a,s,b with
  | .opq 0,.opq 1,.bool b=>zAc (.ok (.tuple [.agg (zAc [.opq 4,.opq 5] [.any,.any] found),.bool found]) mem) (.fail 211) (zAc b (not b) ab)
  |_,_,_=>.fail 211) args
def cloneN (args:List AVal) (mem:Mem):R:=
 arg1 args fun a=>match a with
  | .opq 4=>zAc (.ok (.slice mem.next 0 26 26 false 1) ⟨Nat.succ mem.next,putT mem.next (.cells true (oqs 26 20)) mem.t⟩) (.fail 212) (Nat.ble (Nat.succ mem.next) 65536)
  | .opq 5=>zAc (.ok (.slice mem.next 0 1 1 false 1) ⟨Nat.succ mem.next,putT mem.next (.cells true [.opq 50]) mem.t⟩) (.fail 212) (Nat.ble (Nat.succ mem.next) 65536)
  |_=>.fail 213
def XN (found ab:Bool):Stand:=fun f=>match f with
 |83=>some ⟨nextWX found ab⟩
 |82=>zAc (some ⟨cloneN⟩) none found
 |_=>none
def curL (ab:Bool):List Blk:=[.cells false [.ptr 4 0,.opq 1,.bool ab],.cells true [.opq 0,.any]]
def nxRun (K:KH) (found ab:Bool):Bool:=
 match K 38 [.ptr 3 0] (zAe 2 0 .none (curL ab)) with
 | .ok (.tuple [x,y,.bool b]) m=>zAc (and (zAc b (not b) found)
  (zAc (and (zipB (absN (zAx 2 [3,4,nmOf x,nmOf y]) 4) [.slice 5 0 26 26 false 1,.slice 6 0 1 1 false 1] [x,y]) (and (freshNs 5 [nmOf x,nmOf y]) (zAp (zAx 2 [3,4,nmOf x,nmOf y]) 0 .none [.cells false [.ptr 4 0,.opq 4,.bool true],.cells true [.opq 0,.any],.cells true (oqs 26 20),.cells true [.opq 50]] m)))
   (zAp (zAx 2 [3,4]) 0 .none (curL ab) m) found)) false true
 |_=>false
def uiRun (K:KH) (i:Nat):Bool:=
 match K 40 [.slice 3 0 1 1 false 1] (zAe 2 0 .none [.cells true [.int .u8 (.ofNat i)]]) with
 | .ok (.tuple [x,y,z]) _=>and (aeqN 2 x (.int .u64 (.ofNat i))) (and (aeqN 2 y (.int .i64 1)) (aeqN 2 z .niliface))
 |_=>false
def pkRun (K:KH):Bool:=
 match K 41 [.agg [.any,.slice 3 0 2 2 false 1,.bool false,.any],.slice 4 0 2 2 false 3] (zAe 2 0 .none [.cells true [.int .i64 (.ofNat 0),.int .i64 (.ofNat 1)],.cells true [.int .i64 2,.opq 10,.str [],.int .i64 2,.opq 15,.str []]]) with
 | .ok (.tuple [x,.bool b]) m=>and (not b) (and (absN (zAx 2 [nmOf x]) 4 (.slice 3 0 2 2 false 3) x) (and (freshNs 5 [nmOf x]) (zAp (zAx 2 [nmOf x]) 0 .none [.cells true [.int .i64 2,.opq 10,.str [],.int .i64 2,.opq 15,.str []]] m)))
 |_=>false
def cmpY (s1 s2 s3:Nat) (args:List AVal) (mem:Mem):R:=
 arg2 args fun a b=>match a,b with
  | .opq 10,.opq 11=>.ok (.int .i64 (Int.subNatNat s1 1)) mem
  | .opq 10,.opq 12=>.ok (.int .i64 (Int.subNatNat s2 1)) mem
  | .opq 10,.opq 13=>.ok (.int .i64 (Int.subNatNat s3 1)) mem
  |_,_=>.fail 214
def XT (s1 s2 s3:Nat):Stand:=fun f=>match f with
 |131=>some ⟨cmpY s1 s2 s3⟩
 |_=>none
def toldV (md s1 s2 s3:Nat):Bool:=zAc (Nat.beq s1 1) (and (or (Nat.beq md 1) (Nat.ble 1 s2)) (or (Nat.beq md 0) (Nat.ble s3 1))) (Nat.beq md 3)
def tdRun (K:KH) (md s1 s2 s3:Nat):Bool:=
 match K 42 [.agg (wayL 4 md),.slice 3 0 2 2 false 3] (zAe 2 0 .none [.cells true [.int .i64 2,.opq 10,.str [],.int .i64 2,.opq 15,.str []],.cells true [.int .i64 2,.opq 11,.str []]]) with
 | .ok (.bool b) _=>zAc b (not b) (toldV md s1 s2 s3)
 |_=>false
end Go.AM
namespace Go.AM
open Go.Proofs
def BR:Code:=bodyOf TZ 19
def CSR:List Code:=[sl BR,sl (sr BR),sl (sr (sr BR)),sl (sr (sr (sr BR))),sl (sr (sr (sr (sr BR)))),sl (sr (sr (sr (sr (sr BR))))),sl (sr (sr (sr (sr (sr (sr BR)))))),sl (sr (sr (sr (sr (sr (sr (sr BR))))))),sl (sr (sr (sr (sr (sr (sr (sr (sr BR))))))))]
def ZR:Code:=sr (sr (sr (sr (sr (sr (sr (sr (sr BR))))))))
def BDR:Code:=blkOf' (loopOf' (sl ZR))
def OR14:Array Oper:=opsOf (sl BDR)
def OR15:Array Oper:=opsOf (sl (sl (sr BDR)))
def OR16:Array Oper:=opsOf (sl (sr (sr BDR)))
def OR17:Array Oper:=opsOf (sl (sl (sr (sr (sr BDR)))))
def CR18:Code:=match sr (sl (sr (sr (sr BDR)))) with
 | .cond _ a _=>a
 |c=>c
def TR19:Code:=sr (sr (sr (sr BDR)))
def OR19:Array Oper:=opsOf (sl TR19)
def PreR:Array Oper:=(zBl 10 OR19.toList).toArray
def OR20:Array Oper:=opsOf (sl (sr TR19))
def OR21:Array Oper:=opsOf (match sr (sr TR19) with
 | .cond _ a _=>a
 |c=>c)
def OR22:Array Oper:=opsOf (sl (sr ZR))
def OR23:Array Oper:=opsOf (sl (sr (sr ZR)))
def KR (md:Nat):KH:=callX TZ E1 (XR md) 60
def KN (found ab:Bool):KH:=callX TZ E1 (XN found ab) 60
def KT (s1 s2 s3:Nat):KH:=callX TZ E1 (XT s1 s2 s3) 60
def raAt (n md:Nat):Bool:=raRun TZ (KR md) CSR n md
def raRow (n:Nat):Bool:=and (and (raAt n 0) (raAt n 1)) (and (raAt n 2) (raAt n 3))
def lkAt (n j:Nat):Bool:=and (lkRun TZ K0 PreR n j) (cvRun TZ K0 OR21 n j)
def lkC (n c:Nat):Bool:=allLt (fun j=>or (Nat.ble n (Nat.add (Nat.mul 8 c) j)) (lkAt n (Nat.add (Nat.mul 8 c) j))) 8
def apAt (m:Nat):Bool:=apRun TZ K0 OR21 m
theorem br_is:BR=seqsC CSR (.seq (.block 0 (.loop (.block 1 BDR))) (.seq (.region 22 OR22 false) (.seq (.region 23 OR23 false) .ret))):=by kernel_rfl
theorem bdr_is:BDR=.seq (.region 14 OR14 false) (.seq (.seq (.region 15 OR15 false) (.cond (.tmp 101) (.exit 0) .skip)) (.seq (.region 16 OR16 false) (.seq (.seq (.region 17 OR17 false) (.cond (.tmp 109) CR18 .skip)) (.seq (.region 19 OR19 true) (.seq (.region 20 OR20 false) (.cond (.tmp 130) (.region 21 OR21 false) .skip)))))):=by kernel_rfl
theorem nx_tt:nxRun (KN true true) true true=true:=by kernel_rfl
theorem nx_tf:nxRun (KN true false) true false=true:=by kernel_rfl
theorem nx_ft:nxRun (KN false true) false true=true:=by kernel_rfl
theorem nx_ff:nxRun (KN false false) false false=true:=by kernel_rfl
theorem ui_all:(List.range 100).all (uiRun K0)=true:=by kernel_rfl
theorem pk_run:pkRun K0=true:=by kernel_rfl
theorem td_all:((List.range 4).all fun md=>(List.range 3).all fun s2=>(List.range 3).all fun s3=>tdRun (KT 1 s2 s3) md 1 s2 s3)=true:=by kernel_rfl
theorem cutR:cutOk OR19 PreR 10=true:=by kernel_rfl
end Go.AM
namespace Go.AM
open Go.Proofs
theorem res1 {P:Program} {fn:Func} {t:Nat} (h:fn.results.toList=[.tmp t]) (tmps:Array Value) (w:World):(results fn tmps).run P w=.ok (tmps.getD t undef) w:=results_one h tmps w
theorem ZAg {P:Program} {id n:Nat} {ops:Array Oper} {Q:Exit→Act→World→Prop} {a:Act} {w:World} (hs:ops.size=n) (h:wpOps P ops Q (List.range n) a w):(Code.region id ops false).wp P Q a w:=by
 refine wp_region ?_
 rw[hs]; exact h
theorem segD {ops:Array Oper} {i n:Nat} (h:Nat.ble (Nat.add i n) ops.size=true):((ops.toList.drop i).take n).length=n∧(ops.toList.drop i).take ((ops.toList.drop i).take n).length=(ops.toList.drop i).take n:=by
 have h':i+n≤ops.size:=zAd.1 h
 have hl:((ops.toList.drop i).take n).length=n:=by
  rw[List.length_take,List.length_drop,Array.length_toList]; omega
 exact ⟨hl,by rw[hl]⟩
theorem ZAj {nt:Nat} {ops:Array Oper} {ty:TypeId→Nat} {P:Program} (hty:TyOk P ty) {Q:Exit→Act→World→Prop} {w:World} {L:List (Nat×Value)} (i n:Nat) (js:List Nat) (L':List (Nat×Value)) (hsz:Nat.ble (Nat.add i n) ops.size=true)
 (hv:∀ g,(vrun nt ty ops ((ops.toList.drop i).take n) (setL L g)).1=true) (hL:∀ g,(L'.map fun p=>(vrun nt ty ops ((ops.toList.drop i).take n) (setL L g)).2 p.1)=L'.map Prod.snd) {a:Act} (ha:zAr nt L a) (hn:∀ a',zAr nt L' a'→wpOps P ops Q js a' w):wpOps P ops Q (List.range' i n++js) a w:=by
 obtain ⟨h1,h2⟩:=segD hsz
 have:=vseg hty (Q:=Q) (js:=js) (w:=w) L' i ((ops.toList.drop i).take n) h2 hv hL ha hn
 rwa [h1] at this
theorem vreg {nt id n:Nat} {ops:Array Oper} {ty:TypeId→Nat} {P:Program} (hty:TyOk P ty) {Q:Exit→Act→World→Prop} {w:World} {L:List (Nat×Value)} (hs:ops.size=n) (L':List (Nat×Value))
 (hv:∀ g,(vrun nt ty ops ((ops.toList.drop 0).take n) (setL L g)).1=true) (hL:∀ g,(L'.map fun p=>(vrun nt ty ops ((ops.toList.drop 0).take n) (setL L g)).2 p.1)=L'.map Prod.snd) {a:Act} (ha:zAr nt L a) (hn:∀ a',zAr nt L' a'→Q .normal a' w):(Code.region id ops false).wp P Q a w:=by
 refine ZAg hs ?_
 rw[List.range_eq_range',← List.append_nil (List.range' 0 n)]
 exact ZAj hty 0 n [] L' (zAd.2 (by rw[hs]; exact Nat.le_of_eq (Nat.zero_add n))) hv hL ha fun a' ha'=>by
  unfold wpOps; exact hn a' ha'
def argL:List Value→Nat→List (Nat×Value)
 | [],_=>[]
 |v::l,k=>(k,v)::argL l (k+1)
theorem argL_mem:∀ {l:List Value} {k:Nat} {p:Nat×Value},p∈argL l k→∃ i,p.1=k+i∧l[i]? = some p.2
 |v::l,k,p,h=>by
  rcases List.mem_cons.1 h with rfl|h
  · exact ⟨0,rfl,rfl⟩
  · obtain ⟨i,h1,h2⟩:=argL_mem h
    exact ⟨i+1,by omega,by rw[List.getElem?_cons_succ]; exact h2⟩
theorem bodyPost_panicF {fn:Func} {R:Ending→World→Prop}:PanicF (bodyPost TZ fn R):=fun _ _ _ _ h hq=>⟨h ▸ hq.1,hq.2⟩
theorem enter_V {f:FuncId} {fn:Func} {B:Code} {nt:Nat} (hf:TZ.funcs[f]? = some fn) (hname:fn.name≠ "runtime.NumGoroutine") (hb:fn.body=some B) (hnt:fn.ntmps=nt) {args:List Value} (hlen:args.length≤nt) {w:World} {R:Value→World→Prop}
 (h:∀ (a:Act) (Q:Exit→Act→World→Prop),zAr nt (argL args 0) a→PanicF Q→(∀ a' w' c,zBc nt a'→(results fn a'.tmps).run TZ w'=.ok c w'→R c w'→Q .ret a' w')→B.wp TZ Q a w):Ends TZ f args.toArray w R:=by
 right
 refine ⟨ZBx hf hname hb,?_⟩
 refine calls_of_wp hf hb ?_
 refine h _ _ ⟨⟨by simp[hnt]; omega,rfl⟩,fun p hp=>?_⟩ bodyPost_panicF (fun a' w' c ha' hres hR=>⟨ha'.defers,c,hres,c,rfl,hR⟩)
 obtain ⟨i,h1,h2⟩:=argL_mem hp
 rw[Nat.zero_add] at h1
 have hi:=zAf h2
 rw[h1,Array.getD_eq_getD_getElem?,Array.getElem?_append_left (by simpa using hi)]
 simp[h2]
def isIf:Option TypeDesc→Bool
 |some (.interface _)=>true
 |_=>false
theorem isIf_ok {o:Option TypeDesc} (h:isIf o=true):∃ ms,o=some (.interface ms):=by
 unfold isIf at h
 split at h
 · exact ⟨_,rfl⟩
 · cases h
def tyR:TypeId→Nat
 |22=>1
 |67=>1
 |70=>1
 |72=>1
 |49=>1
 |27=>2
 |4=>3
 |_=>0
theorem zAh:TyOk TZ tyR where
 sl t h:=by
  unfold tyR at h
  split at h
  · exact ⟨5,by kernel_rfl⟩
  · exact ⟨69,by kernel_rfl⟩
  · exact ⟨71,by kernel_rfl⟩
  · exact ⟨4,by kernel_rfl⟩
  · exact ⟨38,by kernel_rfl⟩
  · cases h
  · cases h
  · cases h
 it t h:=by
  unfold tyR at h
  split at h
  · cases h
  · cases h
  · cases h
  · cases h
  · cases h
  · exact isIf_ok (by kernel_rfl)
  · cases h
  · cases h
 bo t h:=by
  unfold tyR at h
  split at h
  · cases h
  · cases h
  · cases h
  · cases h
  · cases h
  · cases h
  · kernel_rfl
  · cases h
def fn181:Func:=(TZ.funcs[181]?).getD default
theorem fn181_is:TZ.funcs[181]? = some fn181:=by kernel_rfl
def B181:Code:=bodyOf TZ 181
def O181:Array Oper:=opsOf (sl B181)
def P181:Array Oper:=opsOf (sl (sr B181))
theorem fn181_body:fn181.body=some (.seq (.region 0 O181 false) (.seq (.region 1 P181 false) .ret)):=by kernel_rfl
theorem fn181_nt:fn181.ntmps=6:=by kernel_rfl
theorem fn181_res:fn181.results.toList=[.tmp 2]:=by kernel_rfl
theorem fn181_name:fn181.name≠ "runtime.NumGoroutine":=by
 have h:(fn181.name == "runtime.NumGoroutine")=false:=by kernel_rfl
 intro e
 rw[e] at h; simp at h
theorem s181:O181.size=1:=by kernel_rfl
theorem t181:P181.size=4:=by kernel_rfl
attribute [local irreducible] O181 P181 in
theorem isNaN_ok {x:Int} {w:World}:Ends TZ 181 #[.int .i64 x] w fun c w'=>c=.bool false∧w'=w:=by
 refine enter_V (args:=[.int .i64 x]) fn181_is fn181_name fn181_body fn181_nt (by simp) fun a Q ha _ hQ=>?_
 refine wp_seq (vreg (nt:=6) zAh s181 [(0,.int .i64 x)] (fun g=>by kernel_rfl) (fun g=>by kernel_rfl) ha fun a1 ha1=>?_)
 refine wp_seq (vreg (nt:=6) zAh t181 [(2,.bool (x != x))] (fun g=>by kernel_rfl) (fun g=>by kernel_rfl) ha1 fun a2 ha2=>?_)
 refine wp_ret (hQ a2 w _ ha2.is (res1 fn181_res _ w) ⟨?_,rfl⟩)
 rw[ha2.get (t:=2) (v:=.bool (x != x)) (fun f=>rfl)]
 simp
end Go.AM
namespace Go.AM
open Go.Proofs
def fn131:Func:=(TZ.funcs[131]?).getD default
theorem fn131_is:TZ.funcs[131]? = some fn131:=by kernel_rfl
def B131:Code:=bodyOf TZ 131
def cdT:Code→Code
 | .cond _ a _=>a
 |c=>c
def O131_0:Array Oper:=opsOf (sl B131)
def O131_1:Array Oper:=opsOf (sl (sr B131))
def O131_2:Array Oper:=opsOf (sl (sr (sr B131)))
def Z131_3:Code:=sr (sr (sr B131))
def O131_3:Array Oper:=opsOf (sl (sl Z131_3))
def C131_3:Code:=cdT (sr (sl Z131_3))
def O131_7:Array Oper:=opsOf (sl (sl (sr Z131_3)))
def C131_7:Code:=cdT (sr (sl (sr Z131_3)))
def Z131_9:Code:=sr (sr Z131_3)
def O131_9:Array Oper:=opsOf (sl (sl Z131_9))
def O131_10:Array Oper:=opsOf (sl (cdT (sr (sl Z131_9))))
def O131_11:Array Oper:=opsOf (sl (sl (sr Z131_9)))
def O131_12:Array Oper:=opsOf (sl (cdT (sr (sl (sr Z131_9)))))
def O131_13:Array Oper:=opsOf (sl (sr (sr Z131_9)))
theorem fn131_body:fn131.body=some (.seq (.region 0 O131_0 false) (.seq (.region 1 O131_1 false) (.seq (.region 2 O131_2 false) (.seq (.seq (.region 3 O131_3 false) (.cond (.tmp 11) C131_3 .skip)) (.seq (.seq (.region 7 O131_7 false) (.cond (.tmp 13) C131_7 .skip))
 (.seq (.seq (.region 9 O131_9 false) (.cond (.tmp 16) (.seq (.region 10 O131_10 false) .ret) .skip)) (.seq (.seq (.region 11 O131_11 false) (.cond (.tmp 19) (.seq (.region 12 O131_12 false) .ret) .skip)) (.seq (.region 13 O131_13 false) .ret)))))))):=by kernel_rfl
theorem fn131_nt:fn131.ntmps=20:=by kernel_rfl
theorem fn131_res:fn131.results.toList=[.tmp 4]:=by kernel_rfl
theorem fn131_name:fn131.name≠ "runtime.NumGoroutine":=by
 have h:(fn131.name == "runtime.NumGoroutine")=false:=by kernel_rfl
 intro e
 rw[e] at h; simp at h
theorem c131_1:CallG O131_1 1 8 181 [.tmp 7] none:=callG (by kernel_rfl) (by kernel_rfl) (by kernel_rfl) (by kernel_rfl)
theorem c131_2:CallG O131_2 1 10 181 [.tmp 9] none:=callG (by kernel_rfl) (by kernel_rfl) (by kernel_rfl) (by kernel_rfl)
theorem s131:O131_0.size=1∧O131_1.size=3∧O131_2.size=3∧O131_3.size=1∧O131_7.size=1∧O131_9.size=3∧O131_10.size=1∧O131_11.size=3∧O131_12.size=1∧O131_13.size=1:=⟨by kernel_rfl,by kernel_rfl,by kernel_rfl,by kernel_rfl,by kernel_rfl,by kernel_rfl,by kernel_rfl,by kernel_rfl,by kernel_rfl,by kernel_rfl⟩
theorem zCj {c:Operand} {X Y:Code} {Q:Exit→Act→World→Prop} {a:Act} {w:World} {b:Bool} (hc:a.eval c=.bool b) (ht:b=true→X.wp TZ Q a w) (hf:b=false→Y.wp TZ Q a w):(Code.cond c X Y).wp TZ Q a w:=by
 cases b
 · exact wp_cond_false hc (hf rfl)
 · exact wp_cond_true hc (ht rfl)
theorem zAr.ev {nt:Nat} {L:List (Nat×Value)} {a:Act} (h:zAr nt L a) {t:Nat} {v:Value} (hL:∀ f,setL L f t=v):a.eval (.tmp t)=v:=h.get hL
def cmpI (x y:Int):Int:=if x<y then -1 else if x > y then 1 else 0
attribute [local irreducible] O131_0 O131_1 O131_2 O131_3 O131_7 O131_9 O131_10 O131_11 O131_12 O131_13 C131_3 C131_7 in
theorem cmp64_ok {x y:Int} {w:World}:Ends TZ 131 #[.int .i64 x,.int .i64 y] w fun c w'=>c=.int .i64 (cmpI x y)∧w'=w:=by
 obtain ⟨s0,s1,s2,s3,s7,s9,s10,s11,s12,s13⟩:=s131
 refine enter_V (args:=[.int .i64 x,.int .i64 y]) fn131_is fn131_name fn131_body fn131_nt (by simp) fun a Q ha _ hQ=>?_
 refine wp_seq (vreg (nt:=20) zAh s0 [(0,.int .i64 x),(1,.int .i64 y)] (fun g=>by kernel_rfl) (fun g=>by kernel_rfl) ha fun a1 ha1=>?_)
 refine wp_seq (ZAg s1 (ZAj (nt:=20) zAh 0 1 [1,2] [(0,.int .i64 x),(1,.int .i64 y),(7,.int .i64 x)] (by kernel_rfl) (fun g=>by kernel_rfl) (fun g=>by kernel_rfl) ha1 fun a2 ha2=>?_))
 refine vcall c131_1 (fun c=>[(0,.int .i64 x),(1,.int .i64 y),(8,c)]) ha2 (by decide) (fun g=>by kernel_rfl) (args:=[.int .i64 x]) (fun g=>by kernel_rfl) isNaN_ok (fun c g=>by kernel_rfl) fun c a3 w3 hR ha3=>?_
 obtain ⟨rfl,rfl⟩:=hR
 refine ZAj (nt:=20) zAh 2 1 [] [(0,.int .i64 x),(1,.int .i64 y),(5,.bool false)] (by kernel_rfl) (fun g=>by kernel_rfl) (fun g=>by kernel_rfl) ha3 fun a4 ha4=>?_
 unfold wpOps
 refine wp_seq (ZAg s2 (ZAj (nt:=20) zAh 0 1 [1,2] [(0,.int .i64 x),(1,.int .i64 y),(5,.bool false),(9,.int .i64 y)] (by kernel_rfl) (fun g=>by kernel_rfl) (fun g=>by kernel_rfl) ha4 fun a5 ha5=>?_))
 refine vcall c131_2 (fun c=>[(0,.int .i64 x),(1,.int .i64 y),(5,.bool false),(10,c)]) ha5 (by decide) (fun g=>by kernel_rfl) (args:=[.int .i64 y]) (fun g=>by kernel_rfl) isNaN_ok (fun c g=>by kernel_rfl) fun c a6 w6 hR ha6=>?_
 obtain ⟨rfl,rfl⟩:=hR
 refine ZAj (nt:=20) zAh 2 1 [] [(0,.int .i64 x),(1,.int .i64 y),(5,.bool false),(6,.bool false)] (by kernel_rfl) (fun g=>by kernel_rfl) (fun g=>by kernel_rfl) ha6 fun a7 ha7=>?_
 unfold wpOps
 refine wp_seq (wp_seq (vreg (nt:=20) zAh s3 [(0,.int .i64 x),(1,.int .i64 y),(6,.bool false),(11,.bool false)] (fun g=>by kernel_rfl) (fun g=>by kernel_rfl) ha7 fun a8 ha8=>?_))
 refine zCj (ha8.ev (v:=.bool false) fun f=>rfl) (fun h=>by cases h) (fun _=>Go.wp_skip ?_)
 refine wp_seq (wp_seq (vreg (nt:=20) zAh s7 [(0,.int .i64 x),(1,.int .i64 y),(13,.bool false)] (fun g=>by kernel_rfl) (fun g=>by kernel_rfl) ha8 fun a9 ha9=>?_))
 refine zCj (ha9.ev (v:=.bool false) fun f=>rfl) (fun h=>by cases h) (fun _=>Go.wp_skip ?_)
 refine wp_seq (wp_seq (vreg (nt:=20) zAh s9 [(0,.int .i64 x),(1,.int .i64 y),(16,.bool (decide (x<y)))] (fun g=>by kernel_rfl) (fun g=>by kernel_rfl) ha9 fun a10 ha10=>?_))
 refine zCj (ha10.ev (v:=.bool (decide (x<y))) fun f=>rfl) (fun h=>?_) (fun h=>Go.wp_skip ?_)
 · refine wp_seq (vreg (nt:=20) zAh s10 [(4,.int .i64 (-1))] (fun g=>by kernel_rfl) (fun g=>by kernel_rfl) ha10 fun a11 ha11=>?_)
   refine wp_ret (hQ a11 w6 _ ha11.is (res1 fn131_res _ w6) ⟨?_,rfl⟩)
   rw[ha11.get (t:=4) (fun f=>rfl)]
   unfold cmpI
   rw[if_pos (of_decide_eq_true h)]
 refine wp_seq (wp_seq (vreg (nt:=20) zAh s11 [(0,.int .i64 x),(1,.int .i64 y),(19,.bool (decide (x > y)))] (fun g=>by kernel_rfl) (fun g=>by kernel_rfl) ha10 fun a12 ha12=>?_))
 refine zCj (ha12.ev (v:=.bool (decide (x > y))) fun f=>rfl) (fun h2=>?_) (fun h2=>Go.wp_skip ?_)
 · refine wp_seq (vreg (nt:=20) zAh s12 [(4,.int .i64 1)] (fun g=>by kernel_rfl) (fun g=>by kernel_rfl) ha12 fun a11 ha11=>?_)
   refine wp_ret (hQ a11 w6 _ ha11.is (res1 fn131_res _ w6) ⟨?_,rfl⟩)
   rw[ha11.get (t:=4) (fun f=>rfl)]
   unfold cmpI
   rw[if_neg (of_decide_eq_false h),if_pos (of_decide_eq_true h2)]
 refine wp_seq (vreg (nt:=20) zAh s13 [(4,.int .i64 0)] (fun g=>by kernel_rfl) (fun g=>by kernel_rfl) ha12 fun a11 ha11=>?_)
 refine wp_ret (hQ a11 w6 _ ha11.is (res1 fn131_res _ w6) ⟨?_,rfl⟩)
 rw[ha11.get (t:=4) (fun f=>rfl)]
 unfold cmpI
 rw[if_neg (of_decide_eq_false h),if_neg (of_decide_eq_false h2)]
end Go.AM
namespace Go.AM
open Go.Proofs
def WRow (w:World) (x:Img) (vs:List Value):Prop:=∃ c el fz,w.heap[x.1]? = some (.cells c el fz)∧x.2.2=c.size∧x.2.1+vs.length≤c.size∧(c.toList.drop x.2.1).take vs.length=vs∧∀ i,x.2.1≤i→i<c.size→¬ (fz.1≤i∧i<fz.2)∧∀ y,c[i]? = some y→y.oneCell'=true
theorem WRow.lt {w:World} {x:Img} {vs:List Value} (h:WRow w x vs):x.1<w.heap.size:=by
 obtain ⟨c,el,fz,h1,_⟩:=h
 exact @ZAq tok0 w x.1 _ h1
theorem WRow.cells {w:World} {x:Img} {vs:List Value} (h:WRow w x vs):zAi (zAk w) x vs:=by
 obtain ⟨c,el,fz,h1,h2,h3,h4,_⟩:=h
 exact ⟨c,el,fz,h1,h2,h3,h4⟩
theorem WRow.brel {T:Tok} (hst:T.strong=false) {φ:Phi} {w:World} {q:Nat} {x:Img} {vs:List Value} {cs:List AVal} (h:WRow w x vs) (hφ:φ q=some x) (hv:@zAa T φ cs vs) (hc:∀ v,v∈cs→v.isCell=true):@BRel T φ w q (.cells false cs):=by
 obtain ⟨c,el,fz,h1,h2,h3,h4,h5⟩:=h
 have hl:=@zAa.length T φ _ _ hv
 refine ⟨x.1,x.2.1,c,el,fz,by rw[hφ,← h2],h1,by omega,by rw[← hl,h4]; exact hv,hc,fun _ i hi hi2=>h5 i hi ?_⟩
 rcases hi2 with hi2|⟨_,hi2⟩
 · exact hi2
 · rw[hst] at hi2; cases hi2
theorem WRow.of {T:Tok} {φ:Phi} {m:Mem} {w:World} (hr:@Rel T TZ φ m w) {p:Nat} (hp:p<m.next) {cs:List AVal} (hg:m.get p=.cells false cs):∃ x vs,φ p=some x∧WRow w x vs∧@zAa T φ cs vs:=by
 have h:=@Rel.blk T TZ φ m w hr p hp
 rw[hg] at h
 obtain ⟨cb,co,c,el,fz,h1,h2,h3,h4,h5,h6⟩:=h
 have hl:=@zAa.length T φ _ _ h4
 refine ⟨(cb,co,c.size),_,h1,⟨c,el,fz,h2,rfl,?_,?_,fun i hi hi2=>h6 rfl i hi (.inl hi2)⟩,h4⟩
 · rw[hl]; exact h3
 · rw[hl]
theorem WRow.left {w w':World} {p:Nat} {x:Img} {vs:List Value} (h:WRow w x vs) (hl:zBk p w w') (hne:x.1≠p):WRow w' x vs:=by
 obtain ⟨c,el,fz,h1,h2⟩:=h
 exact ⟨c,el,fz,(hl.1 x.1 (@ZAq tok0 w x.1 _ h1) hne).trans h1,h2⟩
@[reducible] def tokH (H:Heap) (v:Nat→Value) (h:∀ j,(v j).oneCell'=true):Tok where
 num _:=0
 cnt:=0
 pos _ hj:=absurd hj (Nat.not_lt_zero _)
 hi _ hj:=absurd hj (Nat.not_lt_zero _)
 mono _ _ _ hj:=absurd hj (Nat.not_lt_zero _)
 base:=0
 val:=v
 cell:=h
 hold:=H
theorem idAbs {T:Tok} (hst:T.strong=false) {ns:List Nat} {φ:Phi} {m:Mem} {w:World} {b0:Blk} {E:List Blk} (hr:@Rel T TZ φ m w) (h:zAp (zAx 2 ns) 0 b0 E m=true) :
 @Rel T TZ (zAj (zAx 2 ns) φ) (zAe 2 0 b0 E) w∧∀ t s,absN (zAx 2 ns) 4 t s=true→∀ c,@VRel T φ s c→@VRel T (zAj (zAx 2 ns) φ) t c:=
 absorb (T:=T) (T':=T) (σ:=zAx 2 ns) (g0:=0) (b0:=b0) ZAa.symm hr h (fun _ j c hj _=>absurd hj (Nat.not_lt_zero _)) (fun kk d s c hs _=>(aeq_bad hs).elim)
  (fun i s c hs hc=>by
   have e:=@ZAf tok0 2 _ _ (show aeqN 2 s (.opq i)=true from hs)
   subst e
   rw[ZAw hc]
   exact @VRel.opq T _ i) (fun _ _ h=>h) (fun h=>by rw[hst] at h; cases h)
theorem ZAo {σ:Map} {φ:Phi} {i n:Nat} (hG:σ.G=2) (hn:σ.ns[i]? = some n):zAj σ φ (3+i)=φ n:=by
 have hi:=zAf hn
 unfold zAj
 rw[if_pos (by rw[zBd,hG]; omega),nm_high (by rw[hG]; omega),hG,show 3+i-(2+1)=i by omega,hn]; rfl
def nxVals (root key k v:Value) (kb:List UInt8) (idv:Value) (j:Nat):Value:=
 if j=0 then root else if j=1 then key else if j=4 then k else if j=5 then v else if j=50 then idv else ((zAl kb)[j-20]?).getD nilS
theorem nxVals_cell {root key k v:Value} {kb:List UInt8} {idv:Value} (h1:root.oneCell'=true) (h2:key.oneCell'=true) (h3:k.oneCell'=true) (h4:v.oneCell'=true) (h5:idv.oneCell'=true) (j:Nat):(nxVals root key k v kb idv j).oneCell'=true:=by
 unfold nxVals
 repeat' split
 all_goals first|assumption|exact getD_cell
theorem nextWX_ok {T:Tok} {sg:Sigs} {kb:List UInt8} (htree:TreeIs T.hold (T.val 0) sg) (hI:TInv sg) (hN:(zAo sg).length≤50) (hk:zAy T.hold (T.val 1) kb) {e c:Nat} {f:Value} {es:List Ent} {p:Nat} (hl:LocW e kb sg c f es p) {o:Option Ent} (ho:IsUp kb (zAo sg) o) {found:Bool}
 (hres:(found=false→o=none)∧(found=true→∃ x,o=some x∧T.val 4=x.k∧T.val 5=x.v)):@ZCr T TZ 83 (nextWX found (Nat.beq e 1)):=by
 intro args m v m' h φ w cargs hr hv
 obtain ⟨a,rest,rfl,h1⟩:=ZCy h
 obtain ⟨s,b,rfl,h2⟩:=arg2_ok h1
 split at h2
 rotate_left
 · cases h2
 rename_i b
 obtain ⟨hb,h5⟩:=zAm h2
 cases h5
 generalize hcl:cargs.toList=L at hv
 cases hv with
 | @cons _ rv _ _ v1 hv=>
 cases hv with
 | @cons _ sv _ _ v2 hv=>
 cases hv with
 | @cons _ bv _ _ v3 hv=>
 cases hv
 cases v1
 cases v2
 cases v3
 have hbe:b=Nat.beq e 1:=by
  cases h1:Nat.beq e 1<;>rw[h1] at hb<;>cases b<;>first|rfl|cases hb
 have hca:cargs=#[T.val 0,T.val 1,.bool (Nat.beq e 1)]:=by rw[← Array.toList_inj,← hbe]; exact hcl
 rw[hca]
 have hheld:∀ b o,T.hold b=some o→zAk w b=some o:=@Rel.held T TZ _ _ _ hr
 refine (tree_up tz_wruns (by decide) (rel_two hr) (H:=zAk w) (fun b o h=>h) (htree.mono hheld) hI hN (hk.mono hheld) hl).mono fun cv w' ⟨hl,o',ht,hup⟩=>⟨φ,@Step.grow TZ T _ _ _ _ hr hl.1 hl.2.1 hl.2.2.1 hl.2.2.2.1 hl.2.2.2.2,?_⟩
 have e':=up_unique hup ho
 subst e'
 have two:∀ (x y:AVal) (a b:Value),x.isCell=true→y.isCell=true→@VRel T φ x a→@VRel T φ y b→@VRel T φ (.tuple [.agg [x,y],.bool found]) (.tuple #[.agg #[a,b],.bool found]):=fun x y a b hx hy h1 h2=>
  @VRel.tuple T φ _ _ (@zAa.cons T φ _ _ _ _ (@VRel.agg T φ _ _ (@zAa.cons T φ _ _ _ _ h1 (@zAa.cons T φ _ _ _ _ h2 (@zAa.nil T φ))) (fun v hv=>by
   simp only[List.mem_cons,List.not_mem_nil,or_false] at hv
   rcases hv with rfl|rfl
   · exact hx
   · exact hy)) (@zAa.cons T φ _ _ _ _ (@VRel.bool T φ found) (@zAa.nil T φ)))
 cases found with
 |false=>
  rw[hres.1 rfl] at ht
  obtain ⟨a,b,rfl,ha,hb⟩:=ht
  exact two _ _ _ _ rfl rfl (@VRel.any T φ a ha) (@VRel.any T φ b hb)
 |true=>
  obtain ⟨x,rfl,e4,e5⟩:=hres.2 rfl
  have ht':cv=.tuple #[.agg #[x.k,x.v],.bool true]:=ht
  rw[ht']
  exact two _ _ _ _ rfl rfl (by rw[← e4]; exact @VRel.opq T φ 4) (by rw[← e5]; exact @VRel.opq T φ 5)
theorem cloneN_ok {T:Tok} {kb:List UInt8} {u:Value} (hl:kb.length=26) (hk:ZAk T.hold 1 (T.val 4) 26 (zAl kb)) (hv':ZAk T.hold 1 (T.val 5) 1 [u]) (hu:u.oneCell'=true) (hb:∀ j v,(zAl kb)[j]? = some v→T.val (20+j)=v) (h50:T.val 50=u):@ZCr T TZ 82 cloneN:=by
 intro args m v m' h φ w cargs hr hv
 obtain ⟨a,rfl,h1⟩:=arg1_ok h
 generalize hcl:cargs.toList=L at hv
 cases hv with
 | @cons _ av _ vl v1 hv=>
 cases hv
 have hca:cargs=#[av]:=by rw[← Array.toList_inj]; exact hcl
 rw[hca]
 split at h1
 · obtain ⟨h2,h3⟩:=zAm h1
   cases h3
   cases v1
   have hlen:(oqs 26 20).length=26:=rfl
   have hoq:∀ φ,@zAa T φ (oqs 26 20) (zAl kb):=fun φ=>by
    have:=ZCx (T:=T) (φ:=φ) (zAl kb) 20 hb
    rwa [ZAc,hl] at this
   exact cloneNew (kc:=oqs 26 20) clone26 (by decide) hk (fun u hu=>bytesV_cell hu) hoq (fun x hx=>zBp (zCf hx)) hr (zAd.1 h2)
 · obtain ⟨h2,h3⟩:=zAm h1
   cases h3
   cases v1
   exact cloneNew (kc:=[.opq 50]) clone1 (by decide) hv' (fun x hx=>by rw[List.mem_singleton] at hx; subst hx; exact hu) (fun φ=>@zAa.cons T φ _ _ _ _ (by rw[← h50]; exact @VRel.opq T φ 50) (@zAa.nil T φ)) (fun x hx=>by rw[List.mem_singleton] at hx; subst hx; rfl) hr (zAd.1 h2)
 · cases h1
theorem xn_ok {T:Tok} {found:Bool} {sg:Sigs} {kb:List UInt8} (htree:TreeIs T.hold (T.val 0) sg) (hI:TInv sg) (hN:(zAo sg).length≤50) (hk:zAy T.hold (T.val 1) kb) {e c:Nat} {f:Value} {es:List Ent} {p:Nat} (hl:LocW e kb sg c f es p) {o:Option Ent} (ho:IsUp kb (zAo sg) o)
 (hres:(found=false→o=none)∧(found=true→∃ x u,o=some x∧T.val 4=x.k∧T.val 5=x.v∧x.kb.length=26∧ZAk T.hold 1 x.k 26 (zAl x.kb)∧ZAk T.hold 1 x.v 1 [u]∧u.oneCell'=true∧(∀ j v,(zAl x.kb)[j]? = some v→T.val (20+j)=v)∧T.val 50=u)):@zBb T TZ (KN found (Nat.beq e 1)):=by
 refine callX_ok zBt tz_gprog tz_ext (fun f g h=>?_) 60
 unfold XN at h
 split at h
 · cases h
   exact nextWX_ok htree hI hN hk hl ho ⟨hres.1,fun h=>by
    obtain ⟨x,u,h1,h2,h3,_⟩:=hres.2 h
    exact ⟨x,h1,h2,h3⟩⟩
 · cases found with
   |false=>cases h
   |true=>
    obtain ⟨x,u,h1,h2,h3,h4,h5,h6,h7,h8,h9⟩:=hres.2 rfl
    cases h
    exact cloneN_ok h4 (by rw[h2]; exact h5) (by rw[h3]; exact h6) h7 h8 h9
 · cases h
def NextIs (w:World) (xc:Img) (tp:Value) (o:Option Ent) (cv:Value) (w':World):Prop:=
 zBk xc.1 w w'∧match o with
  |some x=>∃ av bv u,cv=.tuple #[av,bv,.bool true]∧WRow w' xc [tp,x.k,.bool true]∧ZAk (zAk w') 1 av 26 (zAl x.kb)∧ZAk (zAk w') 1 bv 1 [u]∧ZAk (zAk w) 1 x.v 1 [u]
  |none=>∃ av bv,cv=.tuple #[av,bv,.bool false]
theorem nx_at (found ab:Bool):nxRun (KN found ab) found ab=true:=by
 cases found<;>cases ab
 · exact nx_ff
 · exact nx_ft
 · exact nx_tf
 · exact nx_tt
theorem curNext_ok {rows:List RowW} {H:Heap} {root:Value} {sg:Sigs} (hT:zBf true rows H root sg) (hlen:rows.length≤50) {w:World} (hgs:2≤w.heap.size) (hH:In H w) {p:Img} {nv:Value} (hS:zAi H p [root,nv]) (hroot:root.oneCell'=true) (hnv:nv.oneCell'=true) {xc:Img} (hxc:H xc.1=none) {key:Value} {ab:Bool} {kb:List UInt8}
 (hcur:WRow w xc [ptrV p,key,.bool ab]) (hkey:key.oneCell'=true) (hk:zAy H key kb) {e c:Nat} {f:Value} {es:List Ent} {pp:Nat} (hab:ab=Nat.beq e 1) (hl:LocW e kb sg c f es pp) {o:Option Ent} (ho:IsUp kb (zAo sg) o) :
 Ends TZ 38 #[ptrV xc] w (NextIs w xc (ptrV p) o):=by
 subst hab
 have hN:(zAo sg).length≤50:=by rw[hT.len]; exact hlen
 obtain ⟨found,k,v,kb',idv,hkc,hvc,hic,hres⟩:∃ (found:Bool) (k v:Value) (kb':List UInt8) (idv:Value),k.oneCell'=true∧v.oneCell'=true∧idv.oneCell'=true∧((found=false→o=none)∧(found=true→∃ x,o=some x∧k=x.k∧v=x.v∧kb'=x.kb∧x.kb.length=26∧ZAk H 1 x.k 26 (zAl x.kb)∧ZAk H 1 x.v 1 [idv])):=by
  cases o with
  |none=>exact ⟨false,nilS,nilS,[],nilS,rfl,rfl,rfl,fun _=>rfl,fun h=>by cases h⟩
  |some x=>
   obtain ⟨hx,_⟩:=ho
   obtain ⟨hrow,s,_,hkb⟩:=hT.row x hx
   obtain ⟨s',_,hkb',hval⟩:=hT.vals x hx
   have h26:x.kb.length=26:=by rw[hkb,fullW_len]; rfl
   obtain ⟨hk1,_⟩:=hrow
   rw[h26] at hk1
   refine ⟨true,x.k,x.v,x.kb,.int .u8 ((UInt8.ofNat s'.id).toNat:Int),hk1.cell,hval.cell,rfl,fun h=>(by cases h),fun _=>⟨x,rfl,rfl,rfl,rfl,h26,hk1,hval⟩⟩
 let T:Tok:=tokH H (nxVals root key k v kb' idv) (nxVals_cell hroot hkey hkc hvc hic)
 have hb20:∀ j u,(zAl kb')[j]? = some u→kb'.length=26→T.val (20+j)=u:=fun j u hj h26=>by
  have hjl:=zAf hj
  rw[ZAc] at hjl
  show nxVals root key k v kb' idv (20+j)=u
  unfold nxVals
  rw[if_neg (by omega),if_neg (by omega),if_neg (by omega),if_neg (by omega),if_neg (by omega),show 20+j-20=j by omega,hj]; rfl
 have hK:@zBb T TZ (KN found (Nat.beq e 1)):=xn_ok (T:=T) hT.tree hT.inv hN hk hl ho ⟨hres.1,fun h=>by
  obtain ⟨x,h1,h2,h3,h4,h5,h6,h7⟩:=hres.2 h
  refine ⟨x,idv,h1,h2,h3,h5,h6,h7,hic,fun j u hj=>?_,rfl⟩
  rw[← h4] at hj
  exact hb20 j u hj (by rw[h4]; exact h5)⟩
 have hpx:p.1≠xc.1:=fun e=>by
  obtain ⟨c,el,fz,h1,_⟩:=hS
  rw[e,hxc] at h1; cases h1
 have f3:ZAh 2 [xc,p] 3=some xc:=rfl
 have f4:ZAh 2 [xc,p] 4=some p:=rfl
 have hrel:@Rel T TZ (ZAh 2 [xc,p]) (zAe 2 0 .none (curL (Nat.beq e 1))) w:=by
  refine mkRelW ZAa (by decide) hgs rfl (by show 2+1+2≤65536; decide) (fun i b x hb hw hx=>?_) (fun z hz=>?_) (fun i b hb=>?_) (fun b o h=>hH b o h)
  · match i,hb with
    |0,hb=>
     cases hx
     refine ⟨hxc,fun j y hy hj=>?_⟩
     match j,hy with
     |0,_=>exact absurd rfl hj
     |1,hy=>cases hy; exact hpx
     |j+2,hy=>simp at hy
    |1,hb=>cases hb; cases hw
    |i+2,hb=>simp[curL] at hb
  · simp only[List.mem_cons,List.not_mem_nil,or_false] at hz
    rcases hz with rfl|rfl
    · exact hcur.lt
    · exact hS.lt hH
  · match i,hb with
    |0,hb=>
     cases hb
     refine hcur.brel (T:=T) rfl f3 (@zAa.cons T _ _ _ _ _ (@VRel.ptr T _ 4 0 p.1 p.2.1 p.2.2 f4) (@zAa.cons T _ _ _ _ _ (@VRel.opq T _ 1) (@zAa.cons T _ _ _ _ _ (@VRel.bool T _ _) (@zAa.nil T _)))) fun v hv=>?_
     simp only[List.mem_cons,List.not_mem_nil,or_false] at hv
     rcases hv with rfl|rfl|rfl<;>rfl
    |1,hb=>
     cases hb
     refine zBy hH hS f4 (@zAa.cons T _ _ _ _ _ (@VRel.opq T _ 0) (@zAa.cons T _ _ _ _ _ (@VRel.any T _ nv hnv) (@zAa.nil T _))) fun v hv=>?_
     simp only[List.mem_cons,List.not_mem_nil,or_false] at hv
     rcases hv with rfl|rfl<;>rfl
    |i+2,hb=>simp[curL] at hb
 have hargs:@zAa T (ZAh 2 [xc,p]) [.ptr 3 0] (#[ptrV xc]:Array Value).toList:=@zAa.cons T _ _ _ _ _ (@VRel.ptr T _ 3 0 xc.1 xc.2.1 xc.2.2 f3) (@zAa.nil T _)
 have hrun:=nx_at found (Nat.beq e 1)
 unfold nxRun at hrun
 split at hrun
 rotate_left
 · cases hrun
 rename_i x y b m' hq
 refine (hK 38 _ _ _ _ hq _ w _ hrel hargs).mono fun cv w' ⟨φ',hst,hv⟩=>?_
 have hrl:=@Step.rel T TZ _ _ _ _ _ _ hst
 have hleft:zBk xc.1 w w':=leftX_of hst fun q b o s hq hw hφ=>by
  have hn:(zAe 2 0 .none (curL (Nat.beq e 1))).next=5:=ZAt _ _
  rw[hn] at hq
  rw[zAu (by decide) (by show 2+1+2≤65536; decide) (by omega)] at hw
  match q,hq with
  |0,_=>cases hw
  |1,_=>cases hw
  |2,_=>cases hw
  |3,_=>rw[f3] at hφ; cases hφ; rfl
  |4,_=>cases hw
 have hx3:φ' 3=some xc:=@Step.ext T TZ _ _ _ _ _ _ hst _ _ f3
 have hx4:φ' 4=some p:=@Step.ext T TZ _ _ _ _ _ _ hst _ _ f4
 rw[zAn,zAn] at hrun
 cases hv with
 |tuple _ cs hcs=>
 generalize hcl:cs.toList=L at hcs
 cases hcs with
 | @cons _ v1 _ _ q1 hcs=>
 cases hcs with
 | @cons _ v2 _ _ q2 hcs=>
 cases hcs with
 | @cons _ v3 _ _ q3 hcs=>
 cases hcs
 cases q3
 have hcv:(Value.tuple cs)=.tuple #[v1,v2,.bool b]:=by rw[show cs=#[v1,v2,.bool b] by rw[← Array.toList_inj,hcl]]
 rw[hcv]
 cases found with
 |false=>
  have hb:b=false:=by cases b<;>simp_all [zAc]
  subst hb
  rw[hres.1 rfl]
  exact ⟨hleft,v1,v2,rfl⟩
 |true=>
  have hb:b=true:=by cases b<;>simp_all [zAc]
  subst hb
  obtain ⟨x0,h1,h2,h3,h4,h5,h6,h7⟩:=hres.2 rfl
  subst h1
  have hrun':(and (zipB (absN (zAx 2 [3,4,nmOf x,nmOf y]) 4) [.slice 5 0 26 26 false 1,.slice 6 0 1 1 false 1] [x,y]) (and (freshNs 5 [nmOf x,nmOf y]) (zAp (zAx 2 [3,4,nmOf x,nmOf y]) 0 .none [.cells false [.ptr 4 0,.opq 4,.bool true],.cells true [.opq 0,.any],.cells true (oqs 26 20),.cells true [.opq 50]] m')))=true:=by
   simpa[zAc] using hrun
  rw[Bool.and_eq_true,Bool.and_eq_true] at hrun'
  obtain ⟨hz,hfr,habs⟩:=hrun'
  obtain ⟨r1,r2⟩:=idAbs (T:=T) rfl hrl habs
  have hlen2:2+1+([.cells false [.ptr 4 0,.opq 4,.bool true],.cells true [.opq 0,.any],.cells true (oqs 26 20),.cells true [.opq 50]]:List Blk).length≤65536:=by show 2+1+4≤65536; decide
  obtain ⟨a1,a2⟩:=zAv (b0:=.none) hlen2 (i:=0) rfl
  obtain ⟨c1,c2⟩:=zAv (b0:=.none) hlen2 (i:=2) rfl
  obtain ⟨d1,d2⟩:=zAv (b0:=.none) hlen2 (i:=3) rfl
  have hz2:absN (zAx 2 [3,4,nmOf x,nmOf y]) 4 (.slice 5 0 26 26 false 1) x=true∧absN (zAx 2 [3,4,nmOf x,nmOf y]) 4 (.slice 6 0 1 1 false 1) y=true:=by
   have h':zAc (zAc true false (absN (zAx 2 [3,4,nmOf x,nmOf y]) 4 (.slice 6 0 1 1 false 1) y)) false (absN (zAx 2 [3,4,nmOf x,nmOf y]) 4 (.slice 5 0 26 26 false 1) x)=true:=hz
   rw[zAn,zAn] at h'
   split at h'
   · rename_i hh
     split at h'
     · rename_i hh2; exact ⟨hh,hh2⟩
     · cases h'
   · cases h'
  have u1:=r2 _ _ hz2.1 _ q1
  have u2:=r2 _ _ hz2.2 _ q2
  refine ⟨hleft,v1,v2,idv,rfl,?_,?_,?_,h7.mono fun b o hb=>hH b o hb⟩
  · obtain ⟨z,us,g1,g2,g3⟩:=WRow.of r1 a1 a2
    have e1:zAj (zAx 2 [3,4,nmOf x,nmOf y]) φ' 3=φ' 3:=ZAo (i:=0) (n:=3) rfl rfl
    have e4:zAj (zAx 2 [3,4,nmOf x,nmOf y]) φ' 4=φ' 4:=ZAo (i:=1) (n:=4) rfl rfl
    rw[e1,hx3] at g1
    cases g1
    cases g3 with
    |cons t1 g3=>
    cases g3 with
    |cons t2 g3=>
    cases g3 with
    |cons t3 g3=>
    cases g3
    have w1:=ptr_is t1 (e4.trans hx4)
    have w2:=ZAw t2
    cases t3
    rw[w1,w2] at g2
    have e5:T.val 4=x0.k:=h2
    rw[e5] at g2
    exact g2
  · refine zCl (P:=TZ) zBu r1 (by decide:0<26) c1 c2 (by rw[ZAc,h5]) (fun us hus=>?_) u1
    rw[← h4]
    refine oqs_un (T:=T) (n:=26) (a:=20) (by rw[ZAc,h4,h5]) (fun j u hj=>hb20 j u hj (by rw[h4]; exact h5)) hus
  · refine zCl (P:=TZ) zBu r1 (by decide:0<1) d1 d2 rfl (fun us hus=>?_) u2
    cases hus with
    |cons t1 hus=>
    cases hus
    rw[ZAw t1]
    rfl
end Go.AM
namespace Go.AM
open Go.Proofs
theorem ro1 {T:Tok} (hh:∀ b,T.hold b=none) {w:World} (hgs:2≤w.heap.size) {x:Img} {vs:List Value} {cs:List AVal} (hc:zAi (zAk w) x vs) (hv:∀ φ,φ 3=some x→@zAa T φ cs vs) (hcell:∀ v,v∈cs→v.isCell=true):@Rel T TZ (ZAh 2 [x]) (zAe 2 0 .none [.cells true cs]) w:=
 mkRel ZAa (by decide) hgs rfl (by show 2+1+1≤65536; decide) (fun b hb=>by rw[List.mem_singleton] at hb; subst hb; rfl) (fun z hz=>by rw[List.mem_singleton] at hz; subst hz; exact hc.lt (fun b o h=>h)) (fun i b hb=>by
  match i,hb with
  |0,hb=>
   cases hb
   exact zBy (fun b o h=>h) hc (show ZAh 2 [x] 3=some x from rfl) (hv _ rfl) hcell
  |i+1,hb=>simp at hb) (fun b o h=>by rw[hh b] at h; cases h)
theorem ro1_wr {cs:List AVal}:∀ q,q<(zAe 2 0 .none [Blk.cells true cs]).next→((zAe 2 0 .none [Blk.cells true cs]).get q).wr=false:=
 zCc (by decide) (by show 2+1+1≤65536; decide) rfl fun b hb=>by rw[List.mem_singleton] at hb; subst hb; rfl
theorem ro2 {T:Tok} (hh:∀ b,T.hold b=none) {w:World} (hgs:2≤w.heap.size) {x y:Img} {vs us:List Value} {cs ds:List AVal} (hc:zAi (zAk w) x vs) (hd:zAi (zAk w) y us) (hv:∀ φ,φ 3=some x→φ 4=some y→@zAa T φ cs vs) (hu:∀ φ,φ 3=some x→φ 4=some y→@zAa T φ ds us)
 (hcell:∀ v,v∈cs→v.isCell=true) (hdcell:∀ v,v∈ds→v.isCell=true):@Rel T TZ (ZAh 2 [x,y]) (zAe 2 0 .none [.cells true cs,.cells true ds]) w:=
 mkRel ZAa (by decide) hgs rfl (by show 2+1+2≤65536; decide) (fun b hb=>by
  simp only[List.mem_cons,List.not_mem_nil,or_false] at hb
  rcases hb with rfl|rfl<;>rfl) (fun z hz=>by
  simp only[List.mem_cons,List.not_mem_nil,or_false] at hz
  rcases hz with rfl|rfl
  · exact hc.lt (fun b o h=>h)
  · exact hd.lt (fun b o h=>h)) (fun i b hb=>by
  match i,hb with
  |0,hb=>
   cases hb
   exact zBy (fun b o h=>h) hc (show ZAh 2 [x,y] 3=some x from rfl) (hv _ rfl rfl) hcell
  |1,hb=>
   cases hb
   exact zBy (fun b o h=>h) hd (show ZAh 2 [x,y] 4=some y from rfl) (hu _ rfl rfl) hdcell
  |i+2,hb=>simp at hb) (fun b o h=>by rw[hh b] at h; cases h)
theorem ro2_wr {cs ds:List AVal}:∀ q,q<(zAe 2 0 .none [Blk.cells true cs,Blk.cells true ds]).next→((zAe 2 0 .none [Blk.cells true cs,Blk.cells true ds]).get q).wr=false:=
 zCc (by decide) (by show 2+1+2≤65536; decide) rfl fun b hb=>by
  simp only[List.mem_cons,List.not_mem_nil,or_false] at hb
  rcases hb with rfl|rfl<;>rfl
@[reducible] def tokN:Tok:=tokH noH (fun _=>nilS) (fun _=>rfl)
theorem uint_ok {i:Nat} (hi:i<100) {w:World} (hgs:2≤w.heap.size) {bv:Value} (hb:ZAk (zAk w) 1 bv 1 [.int .u8 (i:Int)]):Ends TZ 40 #[bv] w fun cv w'=>cv=.tuple #[.int .u64 (i:Int),.int .i64 1,.nilIface]∧ZAb w w':=by
 obtain ⟨x,hx,hv⟩:=row_rel (T:=tokN) (by decide:0<1) hb
 have hr:=ro1 (T:=tokN) (fun _=>rfl) hgs (cs:=[.int .u8 (.ofNat i)]) hx (fun φ _=>@zAa.cons tokN φ _ _ _ _ (@VRel.int tokN φ .u8 (i:Int)) (@zAa.nil tokN φ)) (fun v hv=>by rw[List.mem_singleton] at hv; subst hv; rfl)
 have hrun:=List.all_eq_true.1 ui_all i (List.mem_range.2 hi)
 unfold uiRun at hrun
 split at hrun
 rotate_left
 · cases hrun
 rename_i a b c m' hq
 simp only[Bool.and_eq_true] at hrun
 obtain ⟨h1,h2,h3⟩:=hrun
 have e1:=@ZAf tok0 2 _ _ h1
 have e2:=@ZAf tok0 2 _ _ h2
 have e3:=@ZAf tok0 2 _ _ h3
 subst e1
 subst e2
 subst e3
 refine (@ZBt tokN 40 _ _ _ _ hq _ w #[bv] hr (@zAa.cons tokN _ _ _ _ _ (hv _ 3 rfl) (@zAa.nil tokN _))).mono fun cv w' ⟨φ',hst,hv'⟩=>⟨?_,ZAb.of hst ro1_wr⟩
 cases hv' with
 |tuple _ cs hcs=>
 generalize hcl:cs.toList=L at hcs
 cases hcs with
 |cons q1 hcs=>
 cases hcs with
 |cons q2 hcs=>
 cases hcs with
 |cons q3 hcs=>
 cases hcs
 rw[show cs=cs.toList.toArray by simp,hcl,intE q1,intE q2,@isNilIface tokN _ _ q3]
 rfl
def abVals (a b:Int) (e l h:Int) (j:Nat):Value:=if j=10 then .int .i64 a else if j=15 then .int .i64 b else if j=11 then .int .i64 e else if j=12 then .int .i64 l else if j=13 then .int .i64 h else nilS
theorem abVals_cell (a b e l h:Int) (j:Nat):(abVals a b e l h j).oneCell'=true:=by
 unfold abVals
 repeat' split
 all_goals rfl
theorem cellsW_rel {T:Tok} {r:RowW} (h10:T.val 10=.int .i64 (numZ r.a)) (h15:T.val 15=.int .i64 (numZ (128+r.b))) (φ:Phi):@zAa T φ [.int .i64 2,.opq 10,.str [],.int .i64 2,.opq 15,.str []] (zBn r):=by
 refine @zAa.cons T _ _ _ _ _ (@VRel.int T _ .i64 2) (@zAa.cons T _ _ _ _ _ (by rw[← h10]; exact @VRel.opq T _ 10) (@zAa.cons T _ _ _ _ _ str0X (@zAa.cons T _ _ _ _ _ (@VRel.int T _ .i64 2) (@zAa.cons T _ _ _ _ _ (by rw[← h15]; exact @VRel.opq T _ 15) (@zAa.cons T _ _ _ _ _ str0X (@zAa.nil T _))))))
theorem cellsW_cell:∀ v,v∈([.int .i64 2,.opq 10,.str [],.int .i64 2,.opq 15,.str []]:List AVal)→v.isCell=true:=fun v hv=>by
 simp only[List.mem_cons,List.not_mem_nil,or_false] at hv
 rcases hv with rfl|rfl|rfl|rfl|rfl|rfl<;>rfl
theorem cellsW_un {T:Tok} {φ:Phi} {r:RowW} (h10:T.val 10=.int .i64 (numZ r.a)) (h15:T.val 15=.int .i64 (numZ (128+r.b))) {vs:List Value} (h:@zAa T φ [.int .i64 2,.opq 10,.str [],.int .i64 2,.opq 15,.str []] vs):vs=zBn r:=by
 obtain ⟨c1,c2,c3,c4,c5,c6,rfl,h1,h2,h3,h4,h5,h6⟩:=vsB h
 cases h1
 cases h4
 rw[strE h3,strE h6,ZAw h2,ZAw h5,h10,h15]; rfl
theorem pickR_ok {w:World} (hgs:2≤w.heap.size) {n pr colsv vv:Value} {r:RowW} (hn:n.oneCell'=true) (hpr:pr.oneCell'=true) (hcols:ZAk (zAk w) 1 colsv 2 [.int .i64 0,.int .i64 1]) (hvv:ZAk (zAk w) 3 vv 2 (zBn r)) :
 Ends TZ 41 #[.agg #[n,colsv,.bool false,pr],vv] w fun cv w'=>ZAb w w'∧∃ lv,cv=.tuple #[lv,.bool false]∧ZAk (zAk w') 3 lv 2 (zBn r):=by
 let T:Tok:=tokH noH (abVals (numZ r.a) (numZ (128+r.b)) 0 0 0) (abVals_cell _ _ _ _ _)
 obtain ⟨x,hx,hxv⟩:=row_rel (T:=T) (by decide:0<2) hcols
 obtain ⟨y,hy,hyv⟩:=row_rel (T:=T) (by decide:0<2) hvv
 have hr:=ro2 (T:=T) (fun _=>rfl) hgs (cs:=[.int .i64 (.ofNat 0),.int .i64 (.ofNat 1)]) hx hy (fun φ _ _=>@zAa.cons T φ _ _ _ _ (@VRel.int T φ .i64 0) (@zAa.cons T φ _ _ _ _ (@VRel.int T φ .i64 1) (@zAa.nil T φ))) (fun φ _ _=>cellsW_rel (T:=T) rfl rfl φ) (fun v hv=>by
  simp only[List.mem_cons,List.not_mem_nil,or_false] at hv
  rcases hv with rfl|rfl<;>rfl) cellsW_cell
 have hrun:=pk_run
 unfold pkRun at hrun
 split at hrun
 rotate_left
 · cases hrun
 rename_i lx b m' hq
 simp only[Bool.and_eq_true] at hrun
 obtain ⟨hb,hz,hfr,habs⟩:=hrun
 have hb':b=false:=by simpa using hb
 subst hb'
 have hargs:@zAa T (ZAh 2 [x,y]) [.agg [.any,.slice 3 0 2 2 false 1,.bool false,.any],.slice 4 0 2 2 false 3] (#[.agg #[n,colsv,.bool false,pr],vv]:Array Value).toList:=by
  refine @zAa.cons T _ _ _ _ _ (@VRel.agg T _ _ _ (@zAa.cons T _ _ _ _ _ (@VRel.any T _ n hn) (@zAa.cons T _ _ _ _ _ (hxv _ 3 rfl) (@zAa.cons T _ _ _ _ _ (@VRel.bool T _ false) (@zAa.cons T _ _ _ _ _ (@VRel.any T _ pr hpr) (@zAa.nil T _))))) (fun v hv=>?_)) (@zAa.cons T _ _ _ _ _ (hyv _ 4 rfl) (@zAa.nil T _))
  simp only[List.mem_cons,List.not_mem_nil,or_false] at hv
  rcases hv with rfl|rfl|rfl|rfl<;>rfl
 refine (@ZBt T 41 _ _ _ _ hq _ w _ hr hargs).mono fun cv w' ⟨φ',hst,hv'⟩=>⟨ZAb.of hst ro2_wr,?_⟩
 obtain ⟨r1,r2⟩:=idAbs (T:=T) rfl (@Step.rel T TZ _ _ _ _ _ _ hst) habs
 cases hv' with
 |tuple _ cs hcs=>
 generalize hcl:cs.toList=L at hcs
 cases hcs with
 | @cons _ lv _ _ q1 hcs=>
 cases hcs with
 |cons q2 hcs=>
 cases hcs
 cases q2
 refine ⟨lv,by rw[show cs=cs.toList.toArray by simp,hcl],?_⟩
 obtain ⟨a1,a2⟩:=zAv (b0:=.none) (l:=[.cells true [.int .i64 2,.opq 10,.str [],.int .i64 2,.opq 15,.str []]]) (by show 2+1+1≤65536; decide) (i:=0) rfl
 exact zCl (P:=TZ) zBu r1 (by decide:0<2) a1 a2 rfl (fun us hus=>cellsW_un (T:=T) rfl rfl hus) (r2 _ _ hz _ q1)
structure WayV where
 md:Nat
 lo:Int
 hi:Int
def WayV.cells (v:WayV) (eqv:Value):List Value:=
 [.int .i64 0,eqv]++(if v.md=0∨v.md=2 then [.int .i64 2,.int .i64 v.lo,.string ByteArray.empty] else [.int .i64 0,.int .i64 0,.string ByteArray.empty]) ++
  (if v.md=1∨v.md=2 then [.int .i64 2,.int .i64 v.hi,.string ByteArray.empty] else [.int .i64 0,.int .i64 0,.string ByteArray.empty])++[.bool (decide (v.md=0∨v.md=2)),.bool (decide (v.md=1∨v.md=2))]
def EqAt (H:Heap) (v:WayV) (eqv:Value):Prop:=(v.md≠3∧eqv=nilS)∨(v.md=3∧∃ x:Img,eqv=.slice (some ⟨x.1,x.2.1,none⟩) 1 1∧x.2.1+3≤x.2.2∧zAi H x [.int .i64 2,.int .i64 v.lo,.string ByteArray.empty])
def ZBn (v:WayV) (a:Int):Bool:=if v.md=3 then decide (a=v.lo) else (decide (v.md=1)||decide (v.lo≤a))&&(decide (v.md=0)||decide (a≤v.hi))
theorem way_rel {T:Tok} {φ:Phi} {v:WayV} (hmd:v.md<4) {eqv:Value} {q:Nat} (he:@VRel T φ (wayEq q v.md) eqv) (h12:T.val 12=.int .i64 v.lo) (h13:T.val 13=.int .i64 v.hi):@zAa T φ (wayL q v.md) (v.cells eqv):=by
 obtain ⟨md,lo,hi⟩:=v
 have z:@VRel T φ (.int .i64 (.ofNat 0)) (.int .i64 0):=@VRel.int T φ .i64 0
 have t:@VRel T φ (.int .i64 2) (.int .i64 2):=@VRel.int T φ .i64 2
 have s:@VRel T φ (.str []) (.string ByteArray.empty):=str0X
 have o12:@VRel T φ (.opq 12) (.int .i64 lo):=by
  have e:T.val 12=.int .i64 lo:=h12
  rw[← e]; exact @VRel.opq T φ 12
 have o13:@VRel T φ (.opq 13) (.int .i64 hi):=by
  have e:T.val 13=.int .i64 hi:=h13
  rw[← e]; exact @VRel.opq T φ 13
 have bt:@VRel T φ (.bool true) (.bool true):=@VRel.bool T φ true
 have bf:@VRel T φ (.bool false) (.bool false):=@VRel.bool T φ false
 have mk:∀ {a1 a2 a3 a4 a5 a6 a7 a8 a9 a10:AVal} {c1 c2 c3 c4 c5 c6 c7 c8 c9 c10:Value},@VRel T φ a1 c1→@VRel T φ a2 c2→@VRel T φ a3 c3→@VRel T φ a4 c4→@VRel T φ a5 c5→@VRel T φ a6 c6→@VRel T φ a7 c7→@VRel T φ a8 c8→@VRel T φ a9 c9→@VRel T φ a10 c10→@zAa T φ [a1,a2,a3,a4,a5,a6,a7,a8,a9,a10] [c1,c2,c3,c4,c5,c6,c7,c8,c9,c10]:=fun h1 h2 h3 h4 h5 h6 h7 h8 h9 h10=>
  @zAa.cons T _ _ _ _ _ h1 (@zAa.cons T _ _ _ _ _ h2 (@zAa.cons T _ _ _ _ _ h3 (@zAa.cons T _ _ _ _ _ h4 (@zAa.cons T _ _ _ _ _ h5 (@zAa.cons T _ _ _ _ _ h6 (@zAa.cons T _ _ _ _ _ h7 (@zAa.cons T _ _ _ _ _ h8 (@zAa.cons T _ _ _ _ _ h9 (@zAa.cons T _ _ _ _ _ h10 (@zAa.nil T _))))))))))
 match md,hmd with
 |0,_=>exact mk z he t o12 s z z s bt bf
 |1,_=>exact mk z he z z s t o13 s bf bt
 |2,_=>exact mk z he t o12 s t o13 s bt bt
 |3,_=>exact mk z he z z s z z s bf bf
theorem wayL_cell {q md:Nat} (hmd:md<4):∀ v,v∈wayL q md→v.isCell=true:=by
 match md,hmd with
 |0,_=>exact fun v hv=>List.all_eq_true.1 (show (wayL q 0).all AVal.isCell=true by kernel_rfl) v hv
 |1,_=>exact fun v hv=>List.all_eq_true.1 (show (wayL q 1).all AVal.isCell=true by kernel_rfl) v hv
 |2,_=>exact fun v hv=>List.all_eq_true.1 (show (wayL q 2).all AVal.isCell=true by kernel_rfl) v hv
 |3,_=>exact fun v hv=>List.all_eq_true.1 (show (wayL q 3).all AVal.isCell=true by kernel_rfl) v hv
def cmpS (x y:Int):Nat:=if x<y then 0 else if x > y then 2 else 1
theorem cmpS_eq (x y:Int):Int.subNatNat (cmpS x y) 1=cmpI x y:=by
 unfold cmpS cmpI
 split
 · rfl
 · split<;>rfl
theorem cmpY_ok {T:Tok} {a e l h:Int} (h10:T.val 10=.int .i64 a) (h11:T.val 11=.int .i64 e) (h12:T.val 12=.int .i64 l) (h13:T.val 13=.int .i64 h):@ZCr T TZ 131 (cmpY (cmpS a e) (cmpS a l) (cmpS a h)):=by
 intro args m v m' hh φ w cargs hr hv
 obtain ⟨x,y,rfl,h1⟩:=arg2_ok hh
 obtain ⟨cx,cy,hc,hx,hy⟩:=vs2 hv
 have hcargs:cargs=#[cx,cy]:=hc
 subst hcargs
 have key:∀ (b:Int),T.val 10=cx→.int .i64 b=cy→R.ok (.int .i64 (Int.subNatNat (cmpS a b) 1)) m=R.ok v m'→Ends TZ 131 #[cx,cy] w fun c w'=>∃ φ',@Step T TZ φ m w φ' m' w'∧@VRel T φ' v c:=fun b e1 e2 e3=>by
  cases e3
  rw[← e1,← e2,h10]
  refine cmp64_ok.mono fun c w' ⟨hc,hw⟩=>?_
  subst hw
  subst hc
  refine ⟨φ,@Step.refl T TZ φ m w' hr,?_⟩
  rw[cmpS_eq]
  exact @VRel.int T φ .i64 _
 split at h1
 · exact key e (ZAw hx).symm (by rw[ZAw hy,h11]) h1
 · exact key l (ZAw hx).symm (by rw[ZAw hy,h12]) h1
 · exact key h (ZAw hx).symm (by rw[ZAw hy,h13]) h1
 · cases h1
theorem kt_ok {T:Tok} {a e l h:Int} (h10:T.val 10=.int .i64 a) (h11:T.val 11=.int .i64 e) (h12:T.val 12=.int .i64 l) (h13:T.val 13=.int .i64 h):@zBb T TZ (KT (cmpS a e) (cmpS a l) (cmpS a h)):=by
 refine callX_ok zBt tz_gprog tz_ext (fun f g hh=>?_) 60
 unfold XT at hh
 split at hh
 · cases hh; exact cmpY_ok h10 h11 h12 h13
 · cases hh
theorem cmpS_le (x y:Int):cmpS x y<3:=by
 unfold cmpS
 split
 · decide
 · split<;>decide
theorem cmpS_self (x:Int):cmpS x x=1:=by
 unfold cmpS
 rw[if_neg (by omega),if_neg (by omega)]
theorem toldV_eq {v:WayV} (hmd:v.md<4) {a:Int} (h3:v.md=3→a=v.lo):toldV v.md 1 (cmpS a v.lo) (cmpS a v.hi)=ZBn v a:=by
 obtain ⟨md,lo,hi⟩:=v
 have e1:(Nat.ble 1 (cmpS a lo))=decide (lo≤a):=by
  unfold cmpS
  by_cases h:a<lo
  · rw[if_pos h]
    have:¬ lo≤a:=by omega
    simp only[this,decide_false]; rfl
  · rw[if_neg h]
    have:lo≤a:=by omega
    simp only[this,decide_true]
    split<;>rfl
 have e2:(Nat.ble (cmpS a hi) 1)=decide (a≤hi):=by
  unfold cmpS
  by_cases h:a<hi
  · rw[if_pos h]
    have:a≤hi:=by omega
    simp only[this,decide_true]; rfl
  · rw[if_neg h]
    by_cases h2:a > hi
    · rw[if_pos h2]
      have:¬ a≤hi:=by omega
      simp only[this,decide_false]; rfl
    · rw[if_neg h2]
      have:a≤hi:=by omega
      simp only[this,decide_true]; rfl
 show zAc (Nat.beq 1 1) (and (or (Nat.beq md 1) (Nat.ble 1 (cmpS a lo))) (or (Nat.beq md 0) (Nat.ble (cmpS a hi) 1))) (Nat.beq md 3)=ZBn ⟨md,lo,hi⟩ a
 rw[e1,e2]
 unfold ZBn
 match md,hmd with
 |0,_=>show ((false||decide (lo≤a))&&(true||decide (a≤hi)))=_; simp
 |1,_=>show ((true||decide (lo≤a))&&(false||decide (a≤hi)))=_; simp
 |2,_=>show ((false||decide (lo≤a))&&(false||decide (a≤hi)))=_; simp
 |3,_=>
  have:a=lo:=h3 rfl
  show true=_
  simp[this]
theorem told_ok {w:World} (hgs:2≤w.heap.size) {v:WayV} (hmd:v.md<4) {eqv lv:Value} {r:RowW} (he:EqAt (zAk w) v eqv) (hlv:ZAk (zAk w) 3 lv 2 (zBn r)) (h3:v.md=3→numZ r.a=v.lo) :
 Ends TZ 42 #[.agg (v.cells eqv).toArray,lv] w fun cv w'=>ZAb w w'∧cv=.bool (ZBn v (numZ r.a)):=by
 let T:Tok:=tokH noH (abVals (numZ r.a) (numZ (128+r.b)) (numZ r.a) v.lo v.hi) (abVals_cell _ _ _ _ _)
 obtain ⟨y,hy,hyv⟩:=row_rel (T:=T) (by decide:0<2) hlv
 obtain ⟨z,hz,hze⟩:∃ z:Img,zAi (zAk w) z [.int .i64 2,.int .i64 (numZ r.a),.string ByteArray.empty]∧∀ φ:Phi,φ 4=some z→@VRel T φ (wayEq 4 v.md) eqv:=by
  rcases he with ⟨h1,rfl⟩|⟨h1,x,rfl,h4,h5⟩
  · refine ⟨y,?_,fun φ _=>?_⟩
    · obtain ⟨c,el,fz,g1,g2,g3,g4⟩:=hy
      refine ⟨c,el,fz,g1,g2,Nat.le_trans ?_ g3,?_⟩
      · show y.2.1+3≤y.2.1+6
        omega
      · have g5:(c.toList.drop y.2.1).take 6=zBn r:=g4
        have:=congrArg (List.take 3) g5
        rw[List.take_take] at this
        exact this
    · unfold wayEq
      rw[zAn,if_neg (fun h=>h1 (beq_true.1 h))]
      exact @VRel.nilslice T φ
  · refine ⟨x,by rw[h3 h1]; exact h5,fun φ hφ=>?_⟩
    unfold wayEq
    rw[zAn,if_pos (beq_true.2 h1)]
    exact @VRel.slice T φ 4 0 1 1 true 3 x.1 x.2.1 x.2.2 x.2.1 1 hφ (Nat.le_refl _) (Nat.le_refl _) (fun _=>rfl) (fun _=>rfl) (by omega)
 have hr:=ro2 (T:=T) (fun _=>rfl) hgs (cs:=[.int .i64 2,.opq 10,.str [],.int .i64 2,.opq 15,.str []]) (ds:=[.int .i64 2,.opq 11,.str []]) hy hz (fun φ _ _=>cellsW_rel (T:=T) rfl rfl φ) (fun φ _ _=>@zAa.cons T φ _ _ _ _ (@VRel.int T φ .i64 2) (@zAa.cons T φ _ _ _ _ (@VRel.opq T φ 11) (@zAa.cons T φ _ _ _ _ str0X (@zAa.nil T φ)))) cellsW_cell (fun v hv=>by
  simp only[List.mem_cons,List.not_mem_nil,or_false] at hv
  rcases hv with rfl|rfl|rfl<;>rfl)
 have hrun:tdRun (KT 1 (cmpS (numZ r.a) v.lo) (cmpS (numZ r.a) v.hi)) v.md 1 (cmpS (numZ r.a) v.lo) (cmpS (numZ r.a) v.hi)=true:=by
  have h1:=List.all_eq_true.1 td_all v.md (List.mem_range.2 hmd)
  have h2:=List.all_eq_true.1 h1 _ (List.mem_range.2 (cmpS_le (numZ r.a) v.lo))
  exact List.all_eq_true.1 h2 _ (List.mem_range.2 (cmpS_le (numZ r.a) v.hi))
 unfold tdRun at hrun
 split at hrun
 rotate_left
 · cases hrun
 rename_i b m' hq
 have hK:@zBb T TZ (KT 1 (cmpS (numZ r.a) v.lo) (cmpS (numZ r.a) v.hi)):=by
  have:=kt_ok (T:=T) (a:=numZ r.a) (e:=numZ r.a) (l:=v.lo) (h:=v.hi) rfl rfl rfl rfl
  rwa [cmpS_self] at this
 have hargs:@zAa T (ZAh 2 [y,z]) [.agg (wayL 4 v.md),.slice 3 0 2 2 false 3] (#[.agg (v.cells eqv).toArray,lv]:Array Value).toList:=by
  refine @zAa.cons T _ _ _ _ _ (@VRel.agg T _ _ _ ?_ (wayL_cell hmd)) (@zAa.cons T _ _ _ _ _ (hyv _ 3 rfl) (@zAa.nil T _))
  have:=way_rel (T:=T) (φ:=ZAh 2 [y,z]) hmd (hze _ rfl) rfl rfl
  simpa using this
 refine (hK 42 _ _ _ _ hq _ w _ hr hargs).mono fun cv w' ⟨φ',hst,hv'⟩=>⟨ZAb.of hst ro2_wr,?_⟩
 cases hv'
 rw[← toldV_eq hmd h3]
 cases hb:toldV v.md 1 (cmpS (numZ r.a) v.lo) (cmpS (numZ r.a) v.hi)<;>rw[hb] at hrun<;>cases b<;>first|rfl|(cases hrun)
end Go.AM
namespace Go.Proofs
open Go.Shelf
def Tryz.sortRows_ren:Go.Shelf.Ren:=⟨fun|6=>44|15=>89|14=>88|28=>141|29=>142|20=>133|21=>134|22=>135|23=>136|24=>137|25=>138|26=>139|27=>140|46=>183|47=>184|48=>185|49=>186|50=>187|57=>225|n=>n,fun|22=>67|24=>69|25=>128|3=>3|39=>195|0=>0|53=>255|55=>59|4=>4|46=>249|45=>248|50=>235|5=>5|9=>9|66=>292|70=>296|76=>322|77=>94|n=>n,fun|n=>n⟩
theorem Tryz.sortRows:Go.Proofs.SlLaysF0.n6 Tryz.prog Tryz.sortRows_ren:={
 mixed:=by kernel_rfl
 f6:=⟨Tryz.f44.name,by decide,Tryz.func44.trans (congrArg some (by kernel_rfl))⟩
 f14:=⟨Tryz.f88.name,by decide,Tryz.func88.trans (congrArg some (by kernel_rfl))⟩
 f15:=Tryz.func89.trans (congrArg some (by kernel_rfl))
 f20:=⟨Tryz.f133.name,by decide,Tryz.func133.trans (congrArg some (by kernel_rfl))⟩
 f21:=⟨Tryz.f134.name,by decide,Tryz.func134.trans (congrArg some (by kernel_rfl))⟩
 f22:=⟨Tryz.f135.name,by decide,Tryz.func135.trans (congrArg some (by kernel_rfl))⟩
 f23:=⟨Tryz.f136.name,by decide,Tryz.func136.trans (congrArg some (by kernel_rfl))⟩
 f24:=⟨Tryz.f137.name,by decide,Tryz.func137.trans (congrArg some (by kernel_rfl))⟩
 f25:=⟨Tryz.f138.name,by decide,Tryz.func138.trans (congrArg some (by kernel_rfl))⟩
 f26:=⟨Tryz.f139.name,by decide,Tryz.func139.trans (congrArg some (by kernel_rfl))⟩
 f27:=⟨Tryz.f140.name,by decide,Tryz.func140.trans (congrArg some (by kernel_rfl))⟩
 f28:=Tryz.func141.trans (congrArg some (by kernel_rfl))
 f29:=Tryz.func142.trans (congrArg some (by kernel_rfl))
 f46:=⟨Tryz.f183.name,by decide,Tryz.func183.trans (congrArg some (by kernel_rfl))⟩
 f47:=Tryz.func184.trans (congrArg some (by kernel_rfl))
 f48:=Tryz.func185.trans (congrArg some (by kernel_rfl))
 f49:=⟨Tryz.f186.name,by decide,Tryz.func186.trans (congrArg some (by kernel_rfl))⟩
 f50:=⟨Tryz.f187.name,by decide,Tryz.func187.trans (congrArg some (by kernel_rfl))⟩
 f57:=⟨Tryz.f225.name,by decide,Tryz.func225.trans (congrArg some (by kernel_rfl))⟩
 t0:=Tryz.underlying0
 a0:=Tryz.isAgg0
 z0:=Tryz.sizeOf0
 v0:=Tryz.zeroValue0
 t3:=Tryz.underlying3
 a3:=Tryz.isAgg3
 z3:=Tryz.sizeOf3
 v3:=Tryz.zeroValue3
 t4:=Tryz.underlying4
 a4:=Tryz.isAgg4
 z4:=Tryz.sizeOf4
 v4:=Tryz.zeroValue4
 t5:=Tryz.underlying5
 a5:=Tryz.isAgg5
 z5:=Tryz.sizeOf5
 v5:=Tryz.zeroValue5
 t9:=Tryz.underlying9
 a9:=Tryz.isAgg9
 z9:=Tryz.sizeOf9
 v9:=Tryz.zeroValue9
 t22:=Tryz.underlying67
 a22:=Tryz.isAgg67
 z22:=Tryz.sizeOf67
 v22:=Tryz.zeroValue67
 t25:=Tryz.underlying128
 a25:=Tryz.isAgg128
 z25:=Tryz.sizeOf128
 v25:=Tryz.zeroValue128
 t39:=Tryz.underlying195
 a39:=Tryz.isAgg195
 z39:=Tryz.sizeOf195
 v39:=Tryz.zeroValue195
 t45:=Tryz.underlying248
 a45:=Tryz.isAgg248
 z45:=Tryz.sizeOf248
 v45:=Tryz.zeroValue248
 t46:=Tryz.underlying249
 a46:=Tryz.isAgg249
 z46:=Tryz.sizeOf249
 v46:=Tryz.zeroValue249
 t50:=Tryz.underlying235
 a50:=Tryz.isAgg235
 z50:=Tryz.sizeOf235
 v50:=Tryz.zeroValue235
 t53:=Tryz.underlying255
 a53:=Tryz.isAgg255
 z53:=Tryz.sizeOf255
 v53:=Tryz.zeroValue255
 t55:=Tryz.underlying59
 a55:=Tryz.isAgg59
 z55:=Tryz.sizeOf59
 v55:=Tryz.zeroValue59
 t66:=Tryz.underlying292
 a66:=Tryz.isAgg292
 z66:=Tryz.sizeOf292
 v66:=Tryz.zeroValue292
 t70:=Tryz.underlying296
 a70:=Tryz.isAgg296
 z70:=Tryz.sizeOf296
 v70:=Tryz.zeroValue296
 t76:=Tryz.underlying322
 a76:=Tryz.isAgg322
 z76:=Tryz.sizeOf322
 v76:=Tryz.zeroValue322
 t77:=Tryz.underlying94
 a77:=Tryz.isAgg94
 z77:=Tryz.sizeOf94
 v77:=Tryz.zeroValue94 }
def Tryz.eqBytes_ren:Go.Shelf.Ren:=⟨fun|33=>39|n=>n,fun|22=>22|23=>5|4=>4|3=>3|0=>0|n=>n,fun|n=>n⟩
theorem Tryz.eqBytes:Go.Proofs.SlLaysE.n33 Tryz.prog Tryz.eqBytes_ren:={
 mixed:=by kernel_rfl
 f33:=⟨Tryz.f39.name,by decide,Tryz.func39.trans (congrArg some (by kernel_rfl))⟩
 t0:=Tryz.underlying0
 a0:=Tryz.isAgg0
 z0:=Tryz.sizeOf0
 v0:=Tryz.zeroValue0
 t3:=Tryz.underlying3
 a3:=Tryz.isAgg3
 z3:=Tryz.sizeOf3
 v3:=Tryz.zeroValue3
 t4:=Tryz.underlying4
 a4:=Tryz.isAgg4
 z4:=Tryz.sizeOf4
 v4:=Tryz.zeroValue4
 t22:=Tryz.underlying22
 a22:=Tryz.isAgg22
 z22:=Tryz.sizeOf22
 v22:=Tryz.zeroValue22
 a23:=Tryz.isAgg5
 z23:=Tryz.sizeOf5 }
end Go.Proofs
namespace Go.AM
open Go.Proofs Go.Sort
theorem enter_C {f:FuncId} {fn:Func} {B:Code} {nt:Nat} (hf:TZ.funcs[f]? = some fn) (hb:fn.body=some B) (hnt:fn.ntmps=nt) {args:List Value} (hlen:args.length≤nt) {w:World} {R:Ending→World→Prop}
 (h:∀ (a:Act) (Q:Exit→Act→World→Prop),zAr nt (argL args 0) a→(∀ a' w' c,zBc nt a'→(results fn a'.tmps).run TZ w'=.ok c w'→R (.returned c) w'→Q .ret a' w')→B.wp TZ Q a w):Calls TZ f args.toArray w R:=by
 refine calls_of_wp hf hb ?_
 refine h _ _ ⟨⟨by simp[hnt]; omega,rfl⟩,fun p hp=>?_⟩ (fun a' w' c ha' hres hR=>⟨ha'.defers,c,hres,hR⟩)
 obtain ⟨i,h1,h2⟩:=argL_mem hp
 rw[Nat.zero_add] at h1
 have hi:=zAf h2
 rw[h1,Array.getD_eq_getD_getElem?,Array.getElem?_append_left (by simpa using hi)]
 simp[h2]
theorem cell_of {H:Heap} {w:World} (hH:In H w) {x:Img} {vs:List Value} (h:zAi H x vs) {j:Nat} {v:Value} (hj:vs[j]? = some v):w.cell? ⟨x.1,x.2.1+j,none⟩=some v:=by
 obtain ⟨c,el,fz,h1,h2,h3,h4⟩:=h
 have hjl:=zAf hj
 unfold World.cell?
 rw[hH _ _ h1]
 have:c[x.2.1+j]? = some v:=by
  rw[← Array.getElem?_toList]
  rw[← h4,List.getElem?_take,if_pos hjl,List.getElem?_drop] at hj
  exact hj
 simpa using this
def fn39:Func:=(TZ.funcs[39]?).getD default
theorem fn39_is:TZ.funcs[39]? = some fn39:=by kernel_rfl
theorem fn39_body:fn39.body=some (bodyOf TZ 39):=by kernel_rfl
theorem fn39_name:fn39.name≠ "runtime.NumGoroutine":=by
 have h:(fn39.name == "runtime.NumGoroutine")=false:=by kernel_rfl
 intro e
 rw[e] at h; simp at h
theorem allEq_dec:∀ {xs ys:List Int},Lib.allEq (fun x y=>x == y) xs ys=decide (xs=ys)
 | [],[]=>by simp[Lib.allEq]
 | [],_::_=>by simp[Lib.allEq]
 |_::_,[]=>by simp[Lib.allEq]
 |x::xs,y::ys=>by
  simp only[Lib.allEq]
  rw[allEq_dec (xs:=xs) (ys:=ys)]
  by_cases h:x=y
  · by_cases h2:xs=ys<;>simp[h,h2]
  · simp[h]
def intsB (bs:List UInt8):List Int:=bs.map fun x=>(x.toNat:Int)
theorem intsB_inj {a b:List UInt8}:intsB a=intsB b ↔ a=b:=by
 constructor
 · intro h
   unfold intsB at h
   refine (List.map_inj_right (fun x y e=>?_)).1 h
   have:x.toNat=y.toNat:=by omega
   exact UInt8.toNat_inj.1 this
 · rintro rfl; rfl
theorem equal_ok {w:World} {x y:Img} {bs cs:List UInt8} {c d:Nat} (hx:zAi (zAk w) x (zAl bs)) (hy:zAi (zAk w) y (zAl cs)) (hb:bs.length≤1000) (hc:cs.length≤1000) :
 Ends TZ 39 #[.slice (some ⟨x.1,x.2.1,none⟩) bs.length c,.slice (some ⟨y.1,y.2.1,none⟩) cs.length d] w fun cv w'=>cv=.bool (decide (bs=cs))∧ZAb w w':=by
 right
 refine ⟨ZBx fn39_is fn39_name fn39_body,?_⟩
 have cell:∀ {z:Img} {zs:List UInt8},zAi (zAk w) z (zAl zs)→∀ j,j<(intsB zs).length→w.cell? ⟨z.1,z.2.1+j,none⟩=some (Value.int .u8 (intsB zs)[j]!):=fun {z zs} hz j hj=>by
  refine cell_of (fun b o h=>h) hz ?_
  have hj':j<zs.length:=by unfold intsB at hj; rwa [List.length_map] at hj
  unfold zAl intsB
  rw[List.getElem?_map,List.getElem?_eq_getElem hj',getElem!_pos _ _ (by rw[List.length_map]; exact hj'),List.getElem_map]
  rfl
 have hl:∀ zs:List UInt8,(intsB zs).length=zs.length:=fun zs=>List.length_map _
 have h:=AnyE.slices_Equal (P:=TZ) Tryz.eqBytes (Value.int .u8) (fun x y=>x == y) (NeqAt.int TZ _ .u8) x.1 x.2.1 bs.length c y.1 y.2.1 cs.length d (intsB bs) (intsB cs) w (by rw[hl]; exact Nat.le_refl _) (by rw[hl]; exact Nat.le_refl _) (by omega) (by omega) (cell hx) (cell hy)
 refine Calls.mono h ?_
 rintro e w' ⟨rfl,q,rfl⟩
 refine ⟨_,rfl,?_,⟨fun b hb=>rfl,Nat.le_refl _,rfl,rfl,rfl⟩⟩
 rw[allEq_dec]
 have e1:(intsB bs).take bs.length=intsB bs:=List.take_of_length_le (by rw[hl]; exact Nat.le_refl _)
 have e2:(intsB cs).take cs.length=intsB cs:=List.take_of_length_le (by rw[hl]; exact Nat.le_refl _)
 rw[e1,e2]
 congr 1
 by_cases hbc:bs=cs
 · simp[hbc]
 · have:¬ intsB bs=intsB cs:=fun e=>hbc (intsB_inj.1 e)
   simp[hbc,this]
abbrev IdV:Type:={ p:Nat×Value // p.2.oneCell'=true }
instance:Inhabited IdV:=⟨⟨(0,nilS),rfl⟩⟩
def encR (x:IdV):List Value:=[.int .u64 (x.1.1:Int),x.1.2]
def cfR (x y:IdV):Int:=if x.1.1<y.1.1 then -1 else 1
theorem ltR (x y:IdV):ltOf cfR x y=decide (x.1.1<y.1.1):=by
 unfold ltOf cfR
 by_cases h:x.1.1<y.1.1
 · rw[if_pos h]; simp[h]
 · rw[if_neg h]; simp[h]
theorem swoR:SWO (ltOf cfR) where
 irrefl x:=by rw[ltR]; simp
 trans x y z h1 h2:=by rw[ltR] at *; simp at *; omega
 ntrans x y z h1 h2:=by rw[ltR] at *; simp at *; omega
def fn45:Func:=(TZ.funcs[45]?).getD default
theorem fn45_is:TZ.funcs[45]? = some fn45:=by kernel_rfl
def B45:Code:=bodyOf TZ 45
def O45_0:Array Oper:=opsOf (sl B45)
def O45_1:Array Oper:=opsOf (sl (sl (sr B45)))
def O45_2:Array Oper:=opsOf (sl (cdT (sr (sl (sr B45)))))
def O45_3:Array Oper:=opsOf (sl (sr (sr B45)))
theorem fn45_body:fn45.body=some (.seq (.region 0 O45_0 false) (.seq (.seq (.region 1 O45_1 false) (.cond (.tmp 9) (.seq (.region 2 O45_2 false) .ret) .skip)) (.seq (.region 3 O45_3 false) .ret))):=by kernel_rfl
theorem fn45_nt:fn45.ntmps=10:=by kernel_rfl
theorem fn45_res:fn45.results.toList=[.tmp 4]:=by kernel_rfl
theorem fn45_name:fn45.name≠ "runtime.NumGoroutine":=by
 have h:(fn45.name == "runtime.NumGoroutine")=false:=by kernel_rfl
 intro e
 rw[e] at h; simp at h
theorem s45:O45_0.size=3∧O45_1.size=5∧O45_2.size=1∧O45_3.size=1:=⟨by kernel_rfl,by kernel_rfl,by kernel_rfl,by kernel_rfl⟩
theorem o45_00:OpG O45_0 0 2 (.box 69 (.tmp 0)) none:=opG (by kernel_rfl) (by kernel_rfl) (by kernel_rfl) (by kernel_rfl)
theorem o45_01:OpG O45_0 1 3 (.box 69 (.tmp 1)) none:=opG (by kernel_rfl) (by kernel_rfl) (by kernel_rfl) (by kernel_rfl)
theorem o45_10:OpG O45_1 0 5 (.fieldAddr 69 (.tmp 2) 0) none:=opG (by kernel_rfl) (by kernel_rfl) (by kernel_rfl) (by kernel_rfl)
theorem o45_11:OpG O45_1 1 6 (.load 59 (.tmp 5)) none:=opG (by kernel_rfl) (by kernel_rfl) (by kernel_rfl) (by kernel_rfl)
theorem o45_12:OpG O45_1 2 7 (.fieldAddr 69 (.tmp 3) 0) none:=opG (by kernel_rfl) (by kernel_rfl) (by kernel_rfl) (by kernel_rfl)
theorem o45_13:OpG O45_1 3 8 (.load 59 (.tmp 7)) none:=opG (by kernel_rfl) (by kernel_rfl) (by kernel_rfl) (by kernel_rfl)
def fldB (s fi off:Nat):Bool:=match TZ.underlying s with
 |some (.struct fs)=>(match fs[fi]? with
  |some F=>hasT TZ F.type&&!(Nat.beq (szOf TZ F.type) 0)&&Nat.beq F.offset off
  |none=>false)
 |_=>false
theorem run_fa {a:Act} {w:World} {o:Oper} {s x fi off:Nat} (hf:fldB s fi off=true) (h:o.op=.fieldAddr s (.tmp x) fi) {b k:Nat} (hx:a.tmps.getD x undef=.pointer (some ⟨b,k,none⟩)):(execOp a.eval o).run TZ w=.ok (.value (.pointer (some ⟨b,k+off,none⟩))) w:=by
 letI:=tok0
 unfold fldB at hf
 split at hf
 rotate_left
 · cases hf
 rename_i fs hu
 split at hf
 rotate_left
 · cases hf
 rename_i F hF
 simp only[Bool.and_eq_true,Bool.not_eq_true',beq_true] at hf
 obtain ⟨⟨h1,h2⟩,rfl⟩:=hf
 have hz:¬ szOf TZ F.type=0:=fun e=>by rw[e] at h2; cases h2
 have hadd:({ block:=b,off:=k }:Addr).add F.offset=⟨b,k+F.offset,none⟩:=by
  unfold Addr.add
  split
  · rename_i e; rw[e]; rfl
  · rfl
 simp only[execOp,h,Act.eval,hx,Instr.fieldAt,Sem.run_bind,zAz hu,Result.andThen_ok,hF,Instr.sureAddr,Sem.run_pure,fieldPlace,zAw h1,hz,if_false,hadd]
def plainB (e:Nat):Bool:=hasT TZ e&&!(aggB TZ e)
theorem plain_ok {e:Nat} (h:plainB e=true) (w:World):(isAgg e).run TZ w=.ok false w:=by
 unfold plainB at h
 rw[Bool.and_eq_true] at h
 have:=@run_isAgg' tok0 TZ w e h.1
 rwa [show aggB TZ e=false by simpa using h.2] at this
theorem zCy {a:Act} {w:World} {o:Oper} {x e:Nat} (ha:plainB e=true) (h:o.op=.load e (.tmp x)) {ad:Addr} {v:Value} (hx:a.tmps.getD x undef=.pointer (some ad)) (hc:w.cell? ad=some v):(execOp a.eval o).run TZ w=.ok (.value v) w:=
 run_ld (plain_ok ha) h hx hc
theorem fld69_0:fldB 69 0 0=true:=by kernel_rfl
theorem fld69_1:fldB 69 1 1=true:=by kernel_rfl
theorem pl59:plainB 59=true:=by kernel_rfl
theorem push_get {w:World} {o1 o2:Obj}:((w.alloc o1).alloc o2).heap[w.heap.size]? = some o1∧((w.alloc o1).alloc o2).heap[w.heap.size+1]? = some o2:=by
 refine ⟨?_,?_⟩
 · show ((w.heap.push o1).push o2)[w.heap.size]? = some o1
   rw[Array.getElem?_push,if_neg (by simp),Array.getElem?_push,if_pos rfl]
 · show ((w.heap.push o1).push o2)[w.heap.size+1]? = some o2
   rw[Array.getElem?_push,if_pos (by simp)]
attribute [local irreducible] O45_0 O45_1 O45_2 O45_3 in
theorem less_ok (x y:IdV) (w:World):Calls TZ 45 #[.agg (encR x).toArray,.agg (encR y).toArray] w fun e w'=>e=.returned (.int .i64 (cfR x y))∧w'=(w.alloc (.cells (encR x).toArray 69)).alloc (.cells (encR y).toArray 69):=by
 obtain ⟨s0,s1,s2,s3⟩:=s45
 refine enter_C (args:=[.agg (encR x).toArray,.agg (encR y).toArray]) fn45_is fn45_body fn45_nt (by simp) fun a Q ha hQ=>?_
 refine wp_seq (ZAg s0 ?_)
 show wpOps TZ O45_0 _ [0,1,2] a w
 refine ZBc (nt:=10) o45_00 [(1,.agg (encR y).toArray),(2,.pointer (some ⟨w.heap.size,0,none⟩))] ha (by decide) (fun g=>by kernel_rfl) (w':=w.alloc (.cells (encR x).toArray 69)) (fun o ho=>run_box ho (ha.get (t:=0) fun f=>rfl)) (fun g=>by kernel_rfl) fun a1 ha1=>?_
 refine ZBc (nt:=10) o45_01 [(2,.pointer (some ⟨w.heap.size,0,none⟩)),(3,.pointer (some ⟨w.heap.size+1,0,none⟩))] ha1 (by decide) (fun g=>by kernel_rfl) (w':=(w.alloc (.cells (encR x).toArray 69)).alloc (.cells (encR y).toArray 69)) (fun o ho=>by
  have:=run_box (P:=TZ) (w:=w.alloc (.cells (encR x).toArray 69)) ho (ha1.get (t:=1) fun f=>rfl)
  rw[show (w.alloc (.cells (encR x).toArray 69)).heap.size=w.heap.size+1 from Array.size_push ..] at this
  exact this) (fun g=>by kernel_rfl) fun a2 ha2=>?_
 obtain ⟨p1,p2⟩:=push_get (w:=w) (o1:=.cells (encR x).toArray 69) (o2:=.cells (encR y).toArray 69)
 generalize hw2:(w.alloc (.cells (encR x).toArray 69)).alloc (.cells (encR y).toArray 69)=w2 at p1 p2 hQ ⊢
 have c1:w2.cell? ⟨w.heap.size,0,none⟩=some (.int .u64 (x.1.1:Int)):=by
  unfold World.cell?
  rw[p1]; rfl
 have c2:w2.cell? ⟨w.heap.size+1,0,none⟩=some (.int .u64 (y.1.1:Int)):=by
  unfold World.cell?
  rw[p2]; rfl
 refine ZAj (nt:=10) zAh 2 1 [] [(2,.pointer (some ⟨w.heap.size,0,none⟩)),(3,.pointer (some ⟨w.heap.size+1,0,none⟩))] (by kernel_rfl) (fun g=>by kernel_rfl) (fun g=>by kernel_rfl) ha2 fun a3 ha3=>?_
 unfold wpOps
 refine wp_seq (wp_seq (ZAg s1 ?_))
 show wpOps TZ O45_1 _ [0,1,2,3,4] a3 w2
 refine ZBc (nt:=10) o45_10 [(3,.pointer (some ⟨w.heap.size+1,0,none⟩)),(5,.pointer (some ⟨w.heap.size,0,none⟩))] ha3 (by decide) (fun g=>by kernel_rfl) (fun o ho=>run_fa fld69_0 ho (ha3.get (t:=2) fun f=>rfl)) (fun g=>by kernel_rfl) fun a4 ha4=>?_
 refine ZBc (nt:=10) o45_11 [(3,.pointer (some ⟨w.heap.size+1,0,none⟩)),(6,.int .u64 (x.1.1:Int))] ha4 (by decide) (fun g=>by kernel_rfl) (fun o ho=>zCy pl59 ho (ha4.get (t:=5) fun f=>rfl) c1) (fun g=>by kernel_rfl) fun a5 ha5=>?_
 refine ZBc (nt:=10) o45_12 [(6,.int .u64 (x.1.1:Int)),(7,.pointer (some ⟨w.heap.size+1,0,none⟩))] ha5 (by decide) (fun g=>by kernel_rfl) (fun o ho=>run_fa fld69_0 ho (ha5.get (t:=3) fun f=>rfl)) (fun g=>by kernel_rfl) fun a6 ha6=>?_
 refine ZBc (nt:=10) o45_13 [(6,.int .u64 (x.1.1:Int)),(8,.int .u64 (y.1.1:Int))] ha6 (by decide) (fun g=>by kernel_rfl) (fun o ho=>zCy pl59 ho (ha6.get (t:=7) fun f=>rfl) c2) (fun g=>by kernel_rfl) fun a7 ha7=>?_
 refine ZAj (nt:=10) zAh 4 1 [] [(9,.bool (decide ((x.1.1:Int)<(y.1.1:Int))))] (by kernel_rfl) (fun g=>by kernel_rfl) (fun g=>by kernel_rfl) ha7 fun a8 ha8=>?_
 unfold wpOps
 refine zCj (ha8.ev (v:=.bool (decide ((x.1.1:Int)<(y.1.1:Int)))) fun f=>rfl) (fun h=>?_) (fun h=>Go.wp_skip ?_)
 · have h':x.1.1<y.1.1:=by have:=of_decide_eq_true h; omega
   refine wp_seq (vreg (nt:=10) zAh s2 [(4,.int .i64 (-1))] (fun g=>by kernel_rfl) (fun g=>by kernel_rfl) ha8 fun a9 ha9=>?_)
   refine wp_ret (hQ a9 w2 _ ha9.is (res1 fn45_res _ w2) ⟨?_,rfl⟩)
   rw[ha9.get (t:=4) (v:=.int .i64 (-1)) (fun f=>rfl)]
   unfold cfR
   rw[if_pos h']
 · have h':¬ x.1.1<y.1.1:=by have:=of_decide_eq_false h; omega
   refine wp_seq (vreg (nt:=10) zAh s3 [(4,.int .i64 1)] (fun g=>by kernel_rfl) (fun g=>by kernel_rfl) ha8 fun a9 ha9=>?_)
   refine wp_ret (hQ a9 w2 _ ha9.is (res1 fn45_res _ w2) ⟨?_,rfl⟩)
   rw[ha9.get (t:=4) (v:=.int .i64 1) (fun f=>rfl)]
   unfold cfR
   rw[if_neg h']
end Go.AM
namespace Go.AM
open Go.Proofs Go.Sort
theorem flat_get:∀ {xs:List IdV} {i:Nat} {y:IdV},xs[i]? = some y→(xs.flatMap encR)[i*2]? = some (.int .u64 (y.1.1:Int))∧(xs.flatMap encR)[i*2+1]? = some y.1.2
 |z::l,0,y,h=>by
  simp only[List.getElem?_cons_zero,Option.some.injEq] at h
  subst h
  exact ⟨rfl,rfl⟩
 |z::l,i+1,y,h=>by
  rw[List.getElem?_cons_succ] at h
  obtain ⟨h1,h2⟩:=flat_get h
  have e:((z::l).flatMap encR)=.int .u64 (z.1.1:Int)::z.1.2::l.flatMap encR:=rfl
  rw[e,show (i+1)*2=i*2+1+1 by omega,show i*2+1+1+1=(i*2+1)+1+1 by omega]
  simp only[List.getElem?_cons_succ]
  exact ⟨h1,h2⟩
theorem flatR_len:∀ xs:List IdV,(xs.flatMap encR).length=xs.length*2
 | []=>rfl
 |z::l=>by
  have e:((z::l).flatMap encR)=.int .u64 (z.1.1:Int)::z.1.2::l.flatMap encR:=rfl
  rw[e,List.length_cons,List.length_cons,flatR_len l,List.length_cons]; omega
theorem frozen_of {w:World} {x:Img} {vs:List Value} (h:WRow w x vs) {j:Nat} (hj:j<vs.length):w.frozen? ⟨x.1,x.2.1+j,none⟩=false:=by
 obtain ⟨c,el,fz,h1,h2,h3,h4,h5⟩:=h
 have:=(h5 (x.2.1+j) (by omega) (by omega)).1
 unfold World.frozen?
 rw[h1]
 obtain ⟨lo,hi⟩:=fz
 simp only
 cases hh:(decide (lo≤x.2.1+j)&&decide (x.2.1+j<hi)) with
 |false=>rfl
 |true=>
  rw[Bool.and_eq_true] at hh
  exact absurd ⟨of_decide_eq_true hh.1,of_decide_eq_true hh.2⟩ this
theorem holds_of {w:World} {x:Img} {xs:List IdV} (h:WRow w x (xs.flatMap encR)):HoldsK encR 2 w x.1 x.2.1 xs.toArray:=by
 intro t ht
 rw[size_flatK] at ht
 have ht':t<xs.length*2:=by simpa using ht
 rw[get_flatK _ _ _ _ (by simpa using ht')]
 have hi:t / 2<xs.length:=by omega
 have hg:=List.getElem?_eq_getElem hi
 obtain ⟨h1,h2⟩:=flat_get hg
 have hd:(xs.toArray)[t / 2]! = xs[t / 2]:=by simp[hi]
 rw[hd]
 refine ⟨?_,frozen_of h (by rw[flatR_len]; exact ht')⟩
 refine cell_of (fun b o h=>h) h.cells ?_
 rcases Nat.mod_two_eq_zero_or_one t with hm|hm
 · rw[hm]
   have:t / 2*2=t:=by omega
   rw[this] at h1
   rw[h1]; rfl
 · rw[hm]
   have:t / 2*2+1=t:=by omega
   rw[this] at h2
   rw[h2]; rfl
def fn44:Func:=(TZ.funcs[44]?).getD default
theorem fn44_is:TZ.funcs[44]? = some fn44:=by kernel_rfl
theorem fn44_body:fn44.body=some (bodyOf TZ 44):=by kernel_rfl
theorem fn44_name:fn44.name≠ "runtime.NumGoroutine":=by
 have h:(fn44.name == "runtime.NumGoroutine")=false:=by kernel_rfl
 intro e
 rw[e] at h; simp at h
theorem cmpLaysR (blk off size:Nat) (w:World):CmpLays TZ 45 #[] encR 2 cfR blk off size w:=fun m os dk _ x y=>by
 have:=less_ok x y (sortWorldK encR 2 w blk off m dk os)
 refine Calls.mono this ?_
 rintro e w' ⟨rfl,rfl⟩
 exact ⟨rfl,0,_,by rw[alloc_eq_grow,alloc_eq_grow,grow_grow]; rfl⟩
theorem agg69 (w:World):(isAgg 69).run TZ w=.ok true w:=by
 have:=@run_isAgg' tok0 TZ w 69 (by kernel_rfl)
 rwa [show aggB TZ 69=true by kernel_rfl] at this
theorem siz69 (w:World):(sizeOf 69).run TZ w=.ok 2 w:=by
 have:=@zAw tok0 TZ w 69 (by kernel_rfl)
 rwa [show szOf TZ 69=2 by kernel_rfl] at this
theorem sort_left {w:World} {blk off n:Nat} {d:Array IdV} {os:Array Obj}:zBk blk w (sortWorldK encR 2 w blk off n d os):=by
 have hh:(sortWorldK encR 2 w blk off n d os).heap=(w.heap.modify blk (Go.Sort.onCells (Go.Sort.putCells id off (flatK encR 2 d))))++os:=rfl
 refine ⟨fun b hb hne=>?_,?_,rfl,rfl,rfl⟩
 · rw[hh,Array.getElem?_append_left (by rw[Array.size_modify]; exact hb),Array.getElem?_modify,if_neg (fun e=>hne e.symm)]
 · rw[hh,Array.size_append,Array.size_modify]; omega
def RowsCells (w:World) (x:Img) (ys:List IdV):Prop:=∀ j y,ys[j]? = some y→w.cell? ⟨x.1,x.2.1+j*2,none⟩=some (.int .u64 (y.1.1:Int))∧w.cell? ⟨x.1,x.2.1+(j*2+1),none⟩=some y.1.2
theorem sort_ok {w:World} {x:Img} {xs:List IdV} {cap:Nat} (hw:WRow w x (xs.flatMap encR)) (hm:xs.length≤100) :
 Ends TZ 44 #[.slice (some ⟨x.1,x.2.1,none⟩) xs.length cap,.func (.func 45) #[] #[]] w fun _ w'=>zBk x.1 w w'∧∃ ys:List IdV,ys.Perm xs∧(ys.Pairwise fun a b=>a.1.1≤b.1.1)∧RowsCells w' x ys:=by
 right
 refine ⟨ZBx fn44_is fn44_name fn44_body,?_⟩
 have h:=AnyQ.slices_SortFunc (P:=TZ) (α:=IdV) Tryz.sortRows 2 agg69 siz69 encR (fun _=>rfl) (fun x v hv=>by
  simp only[encR,List.mem_cons,List.not_mem_nil,or_false] at hv
  rcases hv with rfl|rfl
  · rfl
  · exact x.2) cfR swoR 45 #[] x.1 x.2.1 cap xs.toArray w (fun args w=>ZBx fn45_is fn45_name fn45_body) (cmpLaysR _ _ _ _) (holds_of hw) hw.lt (by simp; omega)
 have hsz:xs.toArray.size=xs.length:=by simp
 rw[hsz] at h
 refine Calls.mono h ?_
 rintro e w' ⟨rfl,d',n,os,hp,hs,rfl⟩
 refine ⟨_,rfl,sort_left,d'.toList,?_,?_,?_⟩
 · obtain ⟨p1,_,p3⟩:=hp
   have e1:(d'.extract 0 xs.length).toList=d'.toList:=by
    rw[Array.toList_extract]
    simp[List.take_of_length_le,p1]
   have e2:(xs.toArray.extract 0 xs.length).toList=xs:=by simp
   rw[e1,e2] at p3
   exact p3
 · rw[List.pairwise_iff_getElem]
   intro i j hi hj hij
   have hd:d'.size=xs.length:=by rw[hp.1]; simp
   have:=hs i j (Nat.zero_le _) hij (by rw[← hd]; simpa using hj)
   rw[ltR] at this
   have:=of_decide_eq_false this
   rw[getElem!_pos d' j (by simpa using hj),getElem!_pos d' i (by simpa using hi)] at this
   simp only[Array.getElem_toList]
   omega
 · intro j y hj
   have hjl:=zAf hj
   have hd:d'.size=xs.toArray.size:=hp.1
   have hH:=holdsK_sortWorldK_c encR 2 w x.1 x.2.1 xs.toArray d' n os (holds_of hw) hw.lt hd
   have hjl':j<d'.size:=by simpa using hjl
   have ey:d'[j]! = y:=by
    rw[getElem!_pos d' j hjl']
    rw[List.getElem?_eq_getElem hjl] at hj
    simpa using hj
   obtain ⟨c0,_⟩:=hH.cell hjl' (show 0<2 by decide)
   obtain ⟨c1,_⟩:=hH.cell hjl' (show 1<2 by decide)
   rw[ey] at c0 c1
   exact ⟨c0,by rw[show x.2.1+(j*2+1)=x.2.1+j*2+1 by omega]; exact c1⟩
theorem sort_none {w:World}:Ends TZ 44 #[nilS,.func (.func 45) #[] #[]] w fun _ w'=>w'=w:=by
 right
 refine ⟨ZBx fn44_is fn44_name fn44_body,?_⟩
 have h:=AnyF.slices_SortFunc_none (P:=TZ) Tryz.sortRows none 0 (.func (.func 45) #[] #[]) w
 refine Calls.mono h ?_
 rintro e w' ⟨rfl,rfl⟩
 exact ⟨_,rfl,rfl⟩
end Go.AM
