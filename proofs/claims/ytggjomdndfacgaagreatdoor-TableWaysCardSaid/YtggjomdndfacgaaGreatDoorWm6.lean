/- For TableWays: TwKAll BtW8 BtW9 BtW10 BtW11 BtX3 BtX4 TxKAll BtX5 BtX6 BtX7 BtX8 BtX9. -/
import Derived.Test.YtggjomdndfacgaaGreatDoorWwK0
import Derived.Test.YtggjomdndfacgaaGreatDoorWwK1
import Derived.Test.YtggjomdndfacgaaGreatDoorWwK2
import Derived.Test.YtggjomdndfacgaaGreatDoorWwK3
import Derived.Test.YtggjomdndfacgaaGreatDoorWm5
import Derived.Test.YtggjomdndfacgaaGreatDoorWm3
import Derived.Test.YtggjomdndfacgaaGreatDoorWxK0
import Derived.Test.YtggjomdndfacgaaGreatDoorWxK1
import Derived.Test.YtggjomdndfacgaaGreatDoorWxK2
import Derived.Test.YtggjomdndfacgaaGreatDoorWxK3
set_option linter.unusedSectionVars false
set_option linter.unusedVariables false
set_option linter.unusedSimpArgs false
noncomputable section
namespace Go.AM
set_option maxRecDepth 100000
theorem keyRow_all (n:Nat) (h:n<256):zDd n=true:=pick1 (zAb keyRow_0 (zAb keyRow_1 (zAb keyRow_2 (zAb keyRow_3 (zAb keyRow_4 (zAb keyRow_5 (zAb keyRow_6 (zAb keyRow_7 (zAb keyRow_8 (zAb keyRow_9 (zAb keyRow_10 (zAb keyRow_11 (zAb keyRow_12 (zAb keyRow_13 (zAb keyRow_14 (keyRow_15)))))))))))))))) 256 (by kernel_rfl) h
end Go.AM
namespace Go.AM
open Go.Proofs
structure RowW where
 id:Nat
 a:Nat
 b:Nat
structure RowWOk (r:RowW):Prop where
 a:r.a<256
 b:r.b<3
 pos:1≤r.id
 hi:r.id≤127
def kvals (κ:Bool) (r:RowW):List Nat:=if κ then [r.a,128+r.b] else [128+r.b]
def preW (κ:Bool) (r:RowW):List UInt8:=keyZ (kvals κ r)
def fullW (κ:Bool) (r:RowW):List UInt8:=preW κ r++idB r.id
theorem nBy_eq (κ:Bool) (r:RowW):nBy κ=9*(kvals κ r).length:=by cases κ<;>rfl
theorem preW_len (κ:Bool) (r:RowW):(preW κ r).length=nBy κ:=by unfold preW; rw[keyZ_len,nBy_eq κ r]
theorem fullW_len (κ:Bool) (r:RowW):(fullW κ r).length=nBy κ+8:=by unfold fullW; rw[List.length_append,preW_len]; rfl
theorem nBy_pos (κ:Bool):0<nBy κ:=by cases κ<;>decide
theorem vs3 {T:Tok} {φ:Phi} {x1 x2 x3:AVal} {vs:List Value} (h:@zAa T φ [x1,x2,x3] vs):∃ c1 c2 c3,vs=[c1,c2,c3]∧@VRel T φ x1 c1∧@VRel T φ x2 c2∧@VRel T φ x3 c3:=by
 cases h with
 |cons h1 h=>
 cases h with
 |cons h2 h=>
 cases h with
 |cons h3 h=>
 cases h
 exact ⟨_,_,_,rfl,h1,h2,h3⟩
theorem vsB {T:Tok} {φ:Phi} {x1 x2 x3 x4 x5 x6:AVal} {vs:List Value} (h:@zAa T φ [x1,x2,x3,x4,x5,x6] vs):∃ c1 c2 c3 c4 c5 c6,vs=[c1,c2,c3,c4,c5,c6]∧@VRel T φ x1 c1∧@VRel T φ x2 c2∧@VRel T φ x3 c3∧@VRel T φ x4 c4∧@VRel T φ x5 c5∧@VRel T φ x6 c6:=by
 cases h with
 |cons h1 h=>
 cases h with
 |cons h2 h=>
 cases h with
 |cons h3 h=>
 cases h with
 |cons h4 h=>
 cases h with
 |cons h5 h=>
 cases h with
 |cons h6 h=>
 cases h
 exact ⟨_,_,_,_,_,_,rfl,h1,h2,h3,h4,h5,h6⟩
theorem strE {T:Tok} {φ:Phi} {c:Value} (h:@VRel T φ (.str []) c):c=.string ByteArray.empty:=by
 cases h with
 |str _ t ht=>
  have h2:t.data.toList=[]:=by
   cases hl:t.data.toList with
   |nil=>rfl
   |cons x l=>rw[hl] at ht; cases ht
  have:t.data=#[]:=Array.toList_eq_nil_iff.1 h2
  have e:t=⟨#[]⟩:=by
   cases t
   simp only at this
   subst this
   rfl
  rw[e]; rfl
theorem opqE {T:Tok} {φ:Phi} {j:Nat} {c:Value} (h:@VRel T φ (.opq j) c):c=T.val j:=by cases h; rfl
theorem intE {T:Tok} {φ:Phi} {k:IntKind} {n:Int} {c:Value} (h:@VRel T φ (.int k n) c):c=.int k n:=by cases h; rfl
theorem valsKW_un {T:Tok} {φ:Phi} {κ:Bool} {r:RowW} (h10:T.val 10=.int .i64 (numZ r.a)) (h11:T.val 11=.int .i64 (numZ (128+r.b))) {vs:List Value} (h:@zAa T φ (valsKW κ) vs):vs=valsV (kvals κ r):=by
 cases κ with
 |true=>
  have h':@zAa T φ [.int .i64 2,.opq 10,.str [],.int .i64 2,.opq 11,.str []] vs:=h
  obtain ⟨c1,c2,c3,c4,c5,c6,rfl,k1,k2,k3,k4,k5,k6⟩:=vsB h'
  rw[intE k1,opqE k2,strE k3,intE k4,opqE k5,strE k6,h10,h11]
  rfl
 |false=>
  have h':@zAa T φ [.int .i64 2,.opq 11,.str []] vs:=h
  obtain ⟨c1,c2,c3,rfl,k1,k2,k3⟩:=vs3 h'
  rw[intE k1,opqE k2,strE k3,h11]
  rfl
theorem oqs_un {T:Tok} {φ:Phi}:∀ {n a:Nat} {us vs:List Value},vs.length=n→(∀ j v,vs[j]? = some v→T.val (a+j)=v)→@zAa T φ (oqs n a) us→us=vs
 |0,_,us,vs,hl,_,h=>by
  have:vs=[]:=List.length_eq_zero_iff.1 hl
  cases h
  rw[this]
 |n+1,a,us,[],hl,_,_=>by simp at hl
 |n+1,a,us,v::vs,hl,hv,h=>by
  have h':@zAa T φ (.opq a::oqs n (a+1)) us:=h
  cases h' with
  |cons h1 h2=>
   rw[opqE h1]
   have h0:=hv 0 v rfl
   rw[Nat.add_zero] at h0
   rw[h0,oqs_un (vs:=vs) (by simpa using hl) (fun j u hj=>by
    have:=hv (j+1) u (by rw[List.getElem?_cons_succ]; exact hj)
    rwa [show a+(j+1)=a+1+j by omega] at this) h2]
theorem keyRow_of {κ:Bool} {r:RowW} (hr:RowWOk r):keyRunW KO (kvals κ r)=true:=by
 have h1:=keyRow_all r.a hr.a
 have h2:=keyRow_all (128+r.b) (by have:=hr.b; omega)
 unfold zDd at h1 h2
 simp only[Bool.and_eq_true] at h1 h2
 unfold kvals
 cases κ with
 |false=>exact h2.1.1
 |true=>
  have hb:=hr.b
  show keyRunW KO [r.a,128+r.b]=true
  match hq:r.b,hb with
  |0,_=>exact h1.1.2
  |1,_=>exact h1.2.1
  |2,_=>exact h1.2.2
  |n+3,hb=>omega
theorem keyXW_ok {T:Tok} {κ:Bool} {r:RowW} (hr:RowWOk r) (h10:T.val 10=.int .i64 (numZ r.a)) (h11:T.val 11=.int .i64 (numZ (128+r.b))) (hb:∀ j v,(zAl (preW κ r))[j]? = some v→T.val (20+j)=v):@ZCr T TZ 36 (keyXW κ):=by
 intro args m v m' h φ w cargs hrel hv
 obtain ⟨a,rfl,h1⟩:=arg1_ok h
 split at h1
 rotate_left
 · cases h1
 rename_i B n cp ex
 obtain ⟨ro,cs,hB,h3⟩:=zBo h1
 obtain ⟨h4,h5⟩:=zAm h3
 simp only[Bool.and_eq_true,beq_true,zAd,ZAm] at h4
 obtain ⟨⟨hn,hnc⟩,hz,hnext⟩:=h4
 cases h5
 generalize hcl:cargs.toList=L at hv
 cases hv with
 | @cons _ sv _ _ v1 hv=>
 cases hv
 have hca:cargs=#[sv]:=by rw[← Array.toList_inj]; exact hcl
 rw[hca]
 have hkl:(kvals κ r).length=n:=by rw[hn]; cases κ<;>rfl
 have hn0:0<n:=by rw[hn]; cases κ<;>decide
 have hn2:n≤2:=by rw[hn]; cases κ<;>decide
 have hvl:(valsKW κ).length=n*3:=by rw[hn]; cases κ<;>rfl
 have hrow:ZAk (zAk w) 3 sv (kvals κ r).length (valsV (kvals κ r)):=by
  rw[hkl]
  cases v1 with
  |slice _ _ _ _ _ _ cb co sz o' cap' q1 q2 q3 q4 q5 q6=>
   have hBr:=@Rel.blk T TZ _ _ _ hrel B (@Rel.dom T TZ _ _ _ hrel _ _ q1)
   rw[hB] at hBr
   obtain ⟨cb2,co2,c,el,fz,g1,g2,g3,g4,_⟩:=hBr
   rw[q1] at g1
   cases g1
   have ho:=q5 (by omega)
   rw[Nat.add_zero] at ho
   subst ho
   have h6:=ZCn (T:=T) (φ:=φ) (valsKW κ).length g4
   rw[zip_pre hz (by omega)] at h6
   have h7:=valsKW_un (r:=r) h10 h11 h6
   rw[List.take_take,Nat.min_eq_left (by omega),hvl] at h7
   have hlv:(valsV (kvals κ r)).length=n*3:=by rw[valsV_len,hkl]
   refine .inr ⟨(cb,o',c.size),cap',hn0,hlv,rfl,by omega,q6,c,el,fz,g2,rfl,?_,?_⟩
   · rw[hlv]; show o'+n*3≤c.size; omega
   · rw[hlv]; exact h7
 refine (key_ok (by omega) (by omega) (keyRow_of hr) (rel_two hrel) (fun b o h=>h) hrow).mono fun cv w' ⟨hl,x,cap,hcv,hc1,hc2,hc3,hfr⟩=>?_
 have hnb:9*(kvals κ r).length=nBy κ:=(nBy_eq κ r).symm
 rw[hnb] at hc1 hcv
 obtain ⟨c,el,fz,z1,z2,z3,z4,z5⟩:=hfr
 have hlt:x.1<w'.heap.size:=@ZAq tok0 w' x.1 _ z1
 have hrel2:∀ φ',@zAa T φ' (oqs (nBy κ) 20) (zAl (preW κ r)):=fun φ'=>by
  have:=ZCx (T:=T) (φ:=φ') (zAl (preW κ r)) 20 hb
  rwa [ZAc,preW_len] at this
 refine ⟨_,@Step.add TZ T φ m w hrel w' (.cells false (oqs (nBy κ) 20)) x.1 x.2.1 x.2.2 (by omega) hl.1 hl.2.1 hl.2.2.1 hl.2.2.2.1 hl.2.2.2.2 hc3 hlt ?_,?_⟩
 · exact FreshRow.brel ⟨c,el,fz,z1,z2,z3,z4,z5⟩ (if_pos rfl) (hrel2 _) fun v hv=>zBp (zCf hv)
 · rw[hcv]
   refine @VRel.tuple T _ _ _ (@zAa.cons T _ _ _ _ _ ?_ (@zAa.cons T _ _ _ _ _ (@VRel.niliface T _) (@zAa.nil T _)))
   exact @VRel.slice T _ m.next 0 (nBy κ) (nBy κ) false 1 x.1 x.2.1 x.2.2 x.2.1 cap (by simp) (Nat.le_refl _) hc1 (fun h=>by cases h) (fun _=>rfl) (by omega)
theorem up_unique {b:List UInt8} {l:List Ent}:∀ {o o':Option Ent},IsUp b l o→IsUp b l o'→o=o'
 |none,none,_,_=>rfl
 |none,some x,h,h'=>(h x h'.1 h'.2.1).elim
 |some x,none,h,h'=>(h' x h.1 h.2.1).elim
 |some x,some y,⟨h1,h2,h3⟩,⟨g1,g2,g3⟩=>by
  rcases h3 y g1 g2 with e|e
  · rw[e]
  · rcases g3 x h1 h2 with e'|e'
    · rw[e']
    · exact (e.nlt e').elim
theorem up_ex {b:List UInt8}:∀ {l:List Ent},Sorted l→∃ o,IsUp b l o
 | [],_=>⟨none,fun x hx=>by cases hx⟩
 |a::l,hs=>by
  obtain ⟨h1,h2⟩:=List.pairwise_cons.1 hs
  by_cases h:Lt b a.kb
  · refine ⟨some a,List.mem_cons_self ..,h,fun y hy _=>?_⟩
    rcases List.mem_cons.1 hy with rfl|hy
    · exact .inl rfl
    · exact .inr (h1 y hy)
  · obtain ⟨o,ho⟩:=up_ex (b:=b) h2
    refine ⟨o,?_⟩
    cases o with
    |none=>
     intro x hx
     rcases List.mem_cons.1 hx with rfl|hx
     · exact h
     · exact ho x hx
    |some x=>
     obtain ⟨g1,g2,g3⟩:=ho
     refine ⟨List.mem_cons_of_mem _ g1,g2,fun y hy hb=>?_⟩
     rcases List.mem_cons.1 hy with rfl|hy
     · exact (h hb).elim
     · exact g3 y hy hb
theorem nextXW_ok {T:Tok} {sg:Sigs} {kb:List UInt8} (hkb:kb≠[]) (htree:TreeIs T.hold (T.val 0) sg) (hI:TInv sg) (hN:(zAo sg).length≤49) (hnew:∀ x,x∈zAo sg→x.kb≠kb)
 {kc:List AVal} (hkl:kc.length=kb.length) (hkc:∀ φ us,@zAa T φ kc us→us=zAl kb) {r:Bool} (hres:∀ o,IsUp kb (zAo sg) o→(r=false→o=none)∧(r=true→∃ e,o=some e∧T.val 4=e.k∧T.val 5=e.v)):@ZCr T TZ 83 (nextX kc r):=by
 intro args m v m' h φ w cargs hr hv
 obtain ⟨a,rest,rfl,h1⟩:=ZCy h
 obtain ⟨s,b,rfl,h2⟩:=arg2_ok h1
 split at h2
 · rename_i B n cp ex
   obtain ⟨ro,cs,hB,h3⟩:=zBo h2
   obtain ⟨h4,h5⟩:=zAm h3
   simp only[Bool.and_eq_true,beq_true,zAd,ZAm] at h4
   obtain ⟨⟨hn,hnc⟩,hz⟩:=h4
   cases h5
   generalize hcl:cargs.toList=L at hv
   cases hv with
   | @cons _ rv _ _ v1 hv=>
   cases hv with
   | @cons _ sv _ _ v2 hv=>
   cases hv with
   | @cons _ bv _ _ v3 hv=>
   cases hv
   cases v1
   cases v3
   have hca:cargs=#[T.val 0,sv,.bool false]:=by rw[← Array.toList_inj]; exact hcl
   rw[hca]
   have hk0:0<kb.length:=List.length_pos_iff.2 hkb
   have hbytes:zAy (zAk w) sv kb:=by
    cases v2 with
    |slice _ _ _ _ _ _ cb co sz o' cap' q1 q2 q3 q4 q5 q6=>
     have hBr:=@Rel.blk T TZ _ _ _ hr B (@Rel.dom T TZ _ _ _ hr _ _ q1)
     rw[hB] at hBr
     obtain ⟨cb2,co2,c,el,fz,g1,g2,g3,g4,_⟩:=hBr
     rw[q1] at g1
     cases g1
     have ho:=q5 (by omega)
     refine .inr ⟨cb,o',cap',c,el,fz,by rw[hn,hkl],g2,?_⟩
     have h6:=ZCn (T:=T) (φ:=φ) kc.length g4
     rw[zip_pre hz (by omega)] at h6
     have h7:=hkc _ _ h6
     rw[List.take_take,Nat.min_eq_left (by omega),hkl] at h7
     rw[ho,Nat.add_zero]
     exact h7
   have hheld:∀ b o,T.hold b=some o→zAk w b=some o:=@Rel.held T TZ _ _ _ hr
   obtain ⟨c,f,es,p,hloc⟩:=locW0 hI hkb hnew
   refine (tree_up tz_wruns (by decide) (rel_two hr) (H:=zAk w) (fun b o h=>h) (htree.mono hheld) hI (Nat.le_trans hN (by decide)) hbytes hloc).mono fun cv w' ⟨hl,o,ht,hnx⟩=>⟨φ,@Step.grow TZ T _ _ _ _ hr hl.1 hl.2.1 hl.2.2.1 hl.2.2.2.1 hl.2.2.2.2,?_⟩
   obtain ⟨k1,k2⟩:=hres o hnx
   have two:∀ (x y:AVal) (a b:Value),x.isCell=true→y.isCell=true→@VRel T φ x a→@VRel T φ y b→@VRel T φ (.tuple [.agg [x,y],.bool r]) (.tuple #[.agg #[a,b],.bool r]):=fun x y a b hx hy h1 h2=>
    @VRel.tuple T φ _ _ (@zAa.cons T φ _ _ _ _ (@VRel.agg T φ _ _ (@zAa.cons T φ _ _ _ _ h1 (@zAa.cons T φ _ _ _ _ h2 (@zAa.nil T φ))) (fun v hv=>by
     simp only[List.mem_cons,List.not_mem_nil,or_false] at hv
     rcases hv with rfl|rfl
     · exact hx
     · exact hy)) (@zAa.cons T φ _ _ _ _ (@VRel.bool T φ r) (@zAa.nil T φ)))
   cases r with
   |false=>
    rw[k1 rfl] at ht
    obtain ⟨a,b,rfl,ha,hb⟩:=ht
    exact two _ _ _ _ rfl rfl (@VRel.any T φ a ha) (@VRel.any T φ b hb)
   |true=>
    obtain ⟨e,rfl,e4,e5⟩:=k2 rfl
    have ht':cv=.tuple #[.agg #[e.k,e.v],.bool true]:=ht
    rw[ht']
    exact two _ _ _ _ rfl rfl (by rw[← e4]; exact @VRel.opq T φ 4) (by rw[← e5]; exact @VRel.opq T φ 5)
 · cases h2
end Go.AM
namespace Go.AM
open Go.Proofs
def colsWV (κ:Bool):List Value:=if κ then [.int .i64 0,.int .i64 1] else [.int .i64 1]
def nCol (κ:Bool):Nat:=if κ then 2 else 1
def zBn (r:RowW):List Value:=[.int .i64 2,.int .i64 (numZ r.a),.string ByteArray.empty,.int .i64 2,.int .i64 (numZ (128+r.b)),.string ByteArray.empty]
structure RoundAtW (w:World) (κ:Bool) (r:RowW) (p:Nat) (root nv:Value) (box rowI:Img):Prop where
 S:ZAx w p [root,nv]
 box:∃ name cols prim,zAi (zAk w) box [name,cols,.bool false,prim]∧ZAk (zAk w) 1 cols (nCol κ) (colsWV κ)∧name.oneCell'=true∧prim.oneCell'=true
 row:∃ v,zAi (zAk w) rowI [.int .u64 (r.id:Int),v]∧ZAk (zAk w) 3 v 2 (zBn r)
def roundValsW (κ:Bool) (r:RowW) (root sl:Value) (n i:Nat) (k v:Value) (j:Nat):Value:=
 if j=0 then root else if j=1 then sl else if j=2 then .int .i64 (n:Int) else if j=3 then .int .i64 (i:Int) else if j=4 then k else if j=5 then v
 else if j=10 then .int .i64 (numZ r.a) else if j=11 then .int .i64 (numZ (128+r.b)) else ((zAl (preW κ r))[j-20]?).getD nilS
theorem roundValsW_cell {κ:Bool} {r:RowW} {root sl k v:Value} {n i:Nat} (h1:root.oneCell'=true) (h2:sl.oneCell'=true) (h3:k.oneCell'=true) (h4:v.oneCell'=true) (j:Nat):(roundValsW κ r root sl n i k v j).oneCell'=true:=by
 unfold roundValsW
 repeat' split
 all_goals first
  |exact h1
  |exact h2
  |exact h3
  |exact h4
  |rfl
  |skip
 cases h:(zAl (preW κ r))[j-20]? with
 |none=>rfl
 |some x=>exact bytes_one x (List.mem_of_getElem? h)
theorem roundValsW_byte {κ:Bool} {r:RowW} {root sl k v:Value} {n i:Nat} (j:Nat) (x:Value) (h:(zAl (preW κ r))[j]? = some x):roundValsW κ r root sl n i k v (20+j)=x:=by
 unfold roundValsW
 rw[if_neg (by omega),if_neg (by omega),if_neg (by omega),if_neg (by omega),if_neg (by omega),if_neg (by omega),if_neg (by omega),if_neg (by omega),show 20+j-20=j by omega,h]
 rfl
theorem idxLW_ro {κ:Bool}:∀ b,b∈idxLW κ→b.wr=false:=fun b hb=>by
 simp only[idxLW,List.mem_cons,List.not_mem_nil,or_false] at hb
 rcases hb with rfl|rfl|rfl|rfl|rfl<;>rfl
theorem idxLW_mem_ro {κ:Bool}:∀ q,q<(zAe 2 0 .none (idxLW κ)).next→((zAe 2 0 .none (idxLW κ)).get q).wr=false:=
 zCc (by decide) (by show 2+1+5≤65536; decide) rfl idxLW_ro
theorem idx_relW {T:Tok} {w:World} (hgs:2≤w.heap.size) {κ:Bool} {r:RowW} {p:Nat} {root nv:Value} {box rowI:Img} (h:RoundAtW w κ r p root nv box rowI) (h0:T.val 0=root) (h10:T.val 10=.int .i64 (numZ r.a)) (h11:T.val 11=.int .i64 (numZ (128+r.b))) (hid:∀ φ:Phi,@VRel T φ (.sym .u64 0) (.int .u64 (r.id:Int))) (hheld:∀ b o,T.hold b=some o→w.heap[b]? = some o) :
 ∃ φ,@Rel T TZ φ (zAe 2 0 .none (idxLW κ)) w∧φ 3=some (p,0,2)∧φ 4=some box∧φ 6=some rowI:=by
 obtain ⟨name,cols,prim,b1,b2,b3,b4⟩:=h.box
 obtain ⟨v,v1,v2⟩:=h.row
 have hIn:In (zAk w) w:=fun b o h=>h
 obtain ⟨xc,hxc,vc⟩:=row_rel (T:=T) (by cases κ<;>decide) b2
 obtain ⟨xv,hxv,vv⟩:=row_rel (T:=T) (by decide) v2
 let φ0:Phi:=ZAh 2 [(p,0,2),box,xc,rowI,xv]
 have hnv:nv.oneCell'=true:=by
  obtain ⟨_,_,_,_,_,g,_⟩:=h.S
  exact g _ (by simp)
 have s:@VRel T φ0 (.str []) (.string ByteArray.empty):=@VRel.str T φ0 [] ByteArray.empty rfl
 refine ⟨φ0,?_,rfl,rfl,rfl⟩
 refine mkRel ZAa (by decide) hgs rfl (by show 2+1+5≤65536; decide) idxLW_ro (fun z hz=>?_) (fun i b hb=>?_) hheld
 · simp only[List.mem_cons,List.not_mem_nil,or_false] at hz
   rcases hz with rfl|rfl|rfl|rfl|rfl
   · exact h.S.lt
   · exact b1.lt hIn
   · exact hxc.lt hIn
   · exact v1.lt hIn
   · exact hxv.lt hIn
 · match i,hb with
   |0,hb=>
    simp only[idxLW,List.getElem?_cons_zero,Option.some.injEq] at hb
    subst hb
    exact h.S.brel (show φ0 3=some (p,0,2) from rfl) (@zAa.cons T _ _ _ _ _ (by rw[← h0]; exact @VRel.opq T _ 0) (@zAa.cons T _ _ _ _ _ (@VRel.any T _ _ hnv) (@zAa.nil T _))) (fun v hv=>by
     simp only[List.mem_cons,List.not_mem_nil,or_false] at hv
     rcases hv with rfl|rfl<;>rfl)
   |1,hb=>
    simp only[idxLW,List.getElem?_cons_succ,List.getElem?_cons_zero,Option.some.injEq] at hb
    subst hb
    have e:nCol κ=zAc 2 1 κ:=by cases κ<;>rfl
    exact zBy hIn b1 (show φ0 4=some box from rfl) (@zAa.cons T _ _ _ _ _ (@VRel.any T _ _ b3) (@zAa.cons T _ _ _ _ _ (by rw[← e]; exact vc φ0 5 rfl) (@zAa.cons T _ _ _ _ _ (@VRel.bool T _ false) (@zAa.cons T _ _ _ _ _ (@VRel.any T _ _ b4) (@zAa.nil T _))))) fun v hv=>by
     simp only[List.mem_cons,List.not_mem_nil,or_false] at hv
     rcases hv with rfl|rfl|rfl|rfl<;>rfl
   |2,hb=>
    simp only[idxLW,List.getElem?_cons_succ,List.getElem?_cons_zero,Option.some.injEq] at hb
    subst hb
    have hcv:@zAa T φ0 (zAc [.int .i64 0,.int .i64 1] [.int .i64 1] κ) (colsWV κ):=by
     cases κ
     · exact @zAa.cons T _ _ _ _ _ (@VRel.int T _ .i64 1) (@zAa.nil T _)
     · exact @zAa.cons T _ _ _ _ _ (@VRel.int T _ .i64 0) (@zAa.cons T _ _ _ _ _ (@VRel.int T _ .i64 1) (@zAa.nil T _))
    exact zBy hIn hxc (show φ0 5=some xc from rfl) hcv fun v hv=>by
     cases κ
     · simp only[zAn,Bool.false_eq_true,if_false,List.mem_cons,List.not_mem_nil,or_false] at hv
       subst hv; rfl
     · simp only[zAn,if_true,List.mem_cons,List.not_mem_nil,or_false] at hv
       rcases hv with rfl|rfl<;>rfl
   |3,hb=>
    simp only[idxLW,List.getElem?_cons_succ,List.getElem?_cons_zero,Option.some.injEq] at hb
    subst hb
    exact zBy hIn v1 (show φ0 6=some rowI from rfl) (@zAa.cons T _ _ _ _ _ (hid _) (@zAa.cons T _ _ _ _ _ (vv φ0 7 rfl) (@zAa.nil T _))) fun v hv=>by
     simp only[List.mem_cons,List.not_mem_nil,or_false] at hv
     rcases hv with rfl|rfl<;>rfl
   |4,hb=>
    simp only[idxLW,List.getElem?_cons_succ,List.getElem?_cons_zero,Option.some.injEq] at hb
    subst hb
    refine zBy hIn hxv (show φ0 7=some xv from rfl) (@zAa.cons T _ _ _ _ _ (@VRel.int T _ .i64 2) (@zAa.cons T _ _ _ _ _ (by rw[← h10]; exact @VRel.opq T _ 10) (@zAa.cons T _ _ _ _ _ s (@zAa.cons T _ _ _ _ _ (@VRel.int T _ .i64 2) (@zAa.cons T _ _ _ _ _ (by rw[← h11]; exact @VRel.opq T _ 11) (@zAa.cons T _ _ _ _ _ s (@zAa.nil T _))))))) fun v hv=>?_
    simp only[List.mem_cons,List.not_mem_nil,or_false] at hv
    rcases hv with rfl|rfl|rfl|rfl|rfl|rfl<;>rfl
   |i+5,hb=>simp[idxLW] at hb
structure zBf (κ:Bool) (prev:List RowW) (H:Heap) (root:Value) (sg:Sigs):Prop where
 tree:TreeIs H root sg
 inv:TInv sg
 len:(zAo sg).length=prev.length
 row:∀ e,e∈zAo sg→EntRow H e∧∃ s,s∈prev∧e.kb=fullW κ s
 all:∀ s,s∈prev→∃ e,e∈zAo sg∧e.kb=fullW κ s
 vals:∀ e,e∈zAo sg→∃ s,s∈prev∧e.kb=fullW κ s∧ZAk H 1 e.v 1 (zAl [UInt8.ofNat s.id])
theorem put_invW {κ:Bool} {prev:List RowW} {r:RowW} {H H':Heap} {root root':Value} {sg sg':Sigs} (hT:zBf κ prev H root sg) (hH:∀ b o,H b=some o→H' b=some o) {e:Ent} (h1:TreeIs H' root' sg') (h2:TInv sg') (h3:e.kb=fullW κ r) (h4:EntRow H' e)
 (h5:∀ x,x∈zAo sg' ↔ x=e∨x∈zAo sg) (h6:(zAo sg').length=(zAo sg).length+1) (h7:ZAk H' 1 e.v 1 (zAl [UInt8.ofNat r.id])):zBf κ (prev++[r]) H' root' sg' where
 tree:=h1
 inv:=h2
 len:=by rw[h6,hT.len,List.length_append]; rfl
 row x hx:=by
  rcases (h5 x).1 hx with rfl|hx
  · exact ⟨h4,r,by simp,h3⟩
  · obtain ⟨q1,s,q2,q3⟩:=hT.row x hx
    exact ⟨q1.mono hH,s,by simp[q2],q3⟩
 all s hs:=by
  rcases List.mem_append.1 hs with hs|hs
  · obtain ⟨x,q1,q2⟩:=hT.all s hs
    exact ⟨x,(h5 x).2 (.inr q1),q2⟩
  · rw[List.mem_singleton] at hs
    subst hs
    exact ⟨e,(h5 e).2 (.inl rfl),h3⟩
 vals x hx:=by
  rcases (h5 x).1 hx with rfl|hx
  · exact ⟨r,by simp,h3,h7⟩
  · obtain ⟨s,q2,q3,q4⟩:=hT.vals x hx
    exact ⟨s,by simp[q2],q3,q4.mono hH⟩
theorem fullW_inj {κ:Bool} {r s:RowW} (hr:RowWOk r) (hs:RowWOk s) (h:fullW κ r=fullW κ s):r.id=s.id:=by
 unfold fullW at h
 have h4:=(List.append_inj h (by rw[preW_len,preW_len])).2
 simp only[idB,List.cons.injEq,true_and,and_true] at h4
 have e:=congrArg UInt8.toNat h4
 have h1:=hr.hi
 have h2:=hs.hi
 simp at e
 omega
theorem pre_ne_fullW {κ:Bool} {r s:RowW}:fullW κ s≠preW κ r:=fun e=>by
 have:=congrArg List.length e
 rw[fullW_len,preW_len] at this
 omega
structure LookW (κ:Bool) (r:RowW) (sg:Sigs) (found:Bool) (o:Option Ent):Prop where
 next:∀ o',IsUp (preW κ r) (zAo sg) o'→o'=o
 fnd:found=false∧o=none∨found=true∧∃ e,o=some e∧e∈zAo sg∧e.kb.length=nBy κ+8
theorem look_w {κ:Bool} {prev:List RowW} {r:RowW} {H:Heap} {root:Value} {sg:Sigs} (hT:zBf κ prev H root sg):∃ found o,LookW κ r sg found o:=by
 obtain ⟨o,ho⟩:=up_ex (b:=preW κ r) hT.inv.sorted
 cases o with
 |none=>exact ⟨false,none,fun o' h=>up_unique h ho,.inl ⟨rfl,rfl⟩⟩
 |some e=>
  obtain ⟨_,s,_,hk⟩:=hT.row e ho.1
  exact ⟨true,some e,fun o' h=>up_unique h ho,.inr ⟨rfl,e,rfl,ho.1,by rw[hk,fullW_len]⟩⟩
theorem iOkW_all (κ found:Bool):iOkW κ found=true:=by
 cases κ<;>cases found
 · exact iw_ff
 · exact iw_ft
 · exact iw_tf
 · exact iw_tt
theorem fullW_un {T:Tok} {φ:Phi} {κ:Bool} {r:RowW} (hr:RowWOk r) (hnum:T.num 0=(r.id:Int)) (hb:∀ j v,(zAl (preW κ r))[j]? = some v→T.val (20+j)=v) {us:List Value} (hu:@zAa T φ (appV (oqs (nBy κ) 20) idA) us):us=zAl (fullW κ r):=by
 rw[appV_eq] at hu
 have hlen:(oqs (nBy κ) 20).length=nBy κ:=oqs_len _ _
 have h1:=ZCn (T:=T) (nBy κ) hu
 rw[List.take_left' hlen] at h1
 have h2:=oqs_un (vs:=zAl (preW κ r)) (by rw[ZAc,preW_len]) hb h1
 have hd:∀ (l l':List AVal) (vs:List Value),@zAa T φ (l++l') vs→@zAa T φ l' (vs.drop l.length):=by
  intro l
  induction l with
  |nil=>intro l' vs h; exact h
  |cons x l ih=>
   intro l' vs h
   cases h with
   |cons h1 h2=>exact ih l' _ h2
 have h3:=idA_un hnum hr.hi (hd _ _ _ hu)
 rw[hlen] at h3
 have e:=List.take_append_drop (nBy κ) us
 rw[h2,h3] at e
 rw[← e]
 unfold fullW
 rw[bytesV_app]
theorem xiw_ok {T:Tok} {κ:Bool} {r:RowW} {prev:List RowW} (hr:RowWOk r) {sg:Sigs} {found:Bool} {o:Option Ent} (hT:zBf κ prev T.hold (T.val 0) sg) (hN:prev.length≤49) (hl:LookW κ r sg found o) (ho:∀ e,o=some e→T.val 4=e.k∧T.val 5=e.v)
 (h10:T.val 10=.int .i64 (numZ r.a)) (h11:T.val 11=.int .i64 (numZ (128+r.b))) (hb:∀ j v,(zAl (preW κ r))[j]? = some v→T.val (20+j)=v):∀ f k,XIW κ found f=some k→@ZCr T TZ f k.run:=by
 intro f k h
 unfold XIW at h
 split at h
 · cases h
   exact keyXW_ok hr h10 h11 hb
 · cases h
   have hkb:preW κ r≠[]:=by
    intro e
    have:=congrArg List.length e
    rw[preW_len,List.length_nil] at this
    have:=nBy_pos κ
    omega
   refine nextXW_ok hkb hT.tree hT.inv (by rw[hT.len]; omega) (fun x hx=>?_) (by rw[oqs_len,preW_len]) (fun φ us hus=>oqs_un (by rw[ZAc,preW_len]) hb hus) (fun o' ho'=>?_)
   · obtain ⟨_,s,_,hk⟩:=hT.row x hx
     rw[hk]; exact pre_ne_fullW
   · have e:=hl.next o' ho'
     subst e
     rcases hl.fnd with ⟨rfl,rfl⟩|⟨rfl,e,rfl,he,_⟩
     · exact ⟨fun _=>rfl,(fun h=>by cases h)⟩
     · exact ⟨(fun h=>by cases h),fun _=>⟨e,rfl,ho e rfl⟩⟩
 · cases h
   rcases hl.fnd with ⟨rfl,_⟩|⟨rfl,e,he1,he,hlen⟩
   · show @ZCr T TZ 82 (cloneX [])
     exact cloneX_ok (vs:=[]) (vs5:=[.int .u8 0]) (fun h=>absurd h (by decide)) (fun h=>absurd h (by decide)) (fun u hu=>by cases hu) (fun φ=>@zAa.nil T φ) (fun x hx=>by cases hx) (fun h=>absurd h (by decide)) (fun u hu=>by
      rw[List.mem_singleton] at hu; subst hu; rfl)
   · obtain ⟨⟨hk,vb,hvl,hv⟩,_⟩:=hT.row e he
     obtain ⟨h3,h4⟩:=ho e he1
     have ha:(anyV (nBy κ+8)).length=e.kb.length:=by rw[anyV_len,hlen]
     show @ZCr T TZ 82 (cloneX (anyV (nBy κ+8)))
     refine cloneX_ok (vs:=zAl e.kb) (vs5:=zAl vb) (fun _=>?_) (fun _=>by rw[h3,ha]; exact hk) bytes_one (fun φ=>anyV_rel (by rw[ZAc,hlen]) bytes_one) (fun x hx=>anyV_cell hx) (fun _=>by rw[h4]; rw[hvl] at hv; exact hv) bytes_one
     rw[anyV_len]
     cases κ
     · exact clone17
     · exact clone26
 · cases h
end Go.AM
namespace Go.AM
open Go.Proofs
theorem idx_roundW {w:World} (hgs:2≤w.heap.size) {κ:Bool} {prev:List RowW} {r:RowW} (hr:RowWOk r) (hp:∀ s,s∈prev→RowWOk s∧s.id≠r.id) (hn:prev.length≤49) {H:Heap} (hH:In H w) {p:Nat} (hpn:H p=none) {root:Value} {sg:Sigs} (hT:zBf κ prev H root sg)
 {box:Img} {rb ro rs n cap i:Nat} (hi:i<n) (hR:RoundAtW w κ r p root (.int .i64 (prev.length:Int)) box (rb,ro+i*2,rs)) {a:Act} (ha:zBc 86 a) (g2:a.tmps.getD 2 undef=ptrV box) (g6:a.tmps.getD 6 undef=.pointer (some ⟨p,0,none⟩))
 (g18:a.tmps.getD 18 undef=.slice (some ⟨rb,ro,none⟩) n cap) (g19:a.tmps.getD 19 undef=.int .i64 (n:Int)) (g20:a.tmps.getD 20 undef=.int .i64 (i:Int)) {Q:Exit→Act→World→Prop}
 (hgo:∀ a' w' root' sg' H',zBc 86 a'→a'.tmps.getD 2 undef=ptrV box→a'.tmps.getD 6 undef=.pointer (some ⟨p,0,none⟩)→a'.tmps.getD 18 undef=.slice (some ⟨rb,ro,none⟩) n cap→a'.tmps.getD 19 undef=.int .i64 (n:Int)→a'.tmps.getD 20 undef=.int .i64 (i:Int)→
  zBk p w w'→In H' w'→H' p=none→Onl H w H'→ZAx w' p [root',.int .i64 ((prev.length+1:Nat):Int)]→zBf κ (prev++[r]) H' root' sg'→Q .normal a' w'):BD53.wp TZ Q a w:=by
 obtain ⟨found,o,hl⟩:=look_w (r:=r) hT
 have hroot:root.oneCell'=true:=by
  obtain ⟨_,_,_,_,_,h,_⟩:=hR.S
  exact h _ (by simp)
 let kv:Value:=(o.map Ent.k).getD nilS
 let vv:Value:=(o.map Ent.v).getD nilS
 have hcell:kv.oneCell'=true∧vv.oneCell'=true:=by
  rcases hl.fnd with ⟨_,rfl⟩|⟨_,e,rfl,he,_⟩
  · exact ⟨rfl,rfl⟩
  · obtain ⟨⟨q1,vb,_,q2⟩,_⟩:=hT.row e he
    exact ⟨(bytes_of_row q1).cell,(bytes_of_row q2).cell⟩
 let T:Tok:=tokR H r.id hr.pos hr.hi (roundValsW κ r root (.slice (some ⟨rb,ro,none⟩) n cap) n i kv vv) (roundValsW_cell hroot rfl hcell.1 hcell.2)
 have ho:∀ e,o=some e→T.val 4=e.k∧T.val 5=e.v:=fun e he=>by subst he; exact ⟨rfl,rfl⟩
 have hb:∀ j v,(zAl (preW κ r))[j]? = some v→T.val (20+j)=v:=fun j v h=>roundValsW_byte j v h
 have hK:@zBb T TZ (KIW κ found):=callX_ok zBt tz_gprog tz_ext (xiw_ok (T:=T) hr hT hn hl ho rfl rfl hb) 60
 have hD:@DrawOk T TZ (KIW κ found):=@draw_ok T TZ zBt _ hK
 obtain ⟨φ0,hrel,f3,f4,f6⟩:=idx_relW (T:=T) hgs hR rfl rfl rfl (fun φ=>@VRel.sym T φ .u64 0 (show 0<1 by decide)) hH
 have hrun:=iOkW_all κ found
 unfold iOkW idxOkW at hrun
 split at hrun
 rotate_left
 · cases hrun
 rename_i v1 m1 hq1
 split at hrun
 rotate_left
 · cases hrun
 rename_i v2 m2 hq2
 split at hrun
 rotate_left
 · cases hrun
 rename_i v3 m3 hq3
 refine round_a hK hq1 hrel hi f3 f4 f6 ha g2 g6 g18 g19 g20 rfl rfl rfl fun φ1 a1 w1 hst1 ha1 hv1=>?_
 refine @ZCh TZ T _ hK hD 86 C53 g53 _ _ _ _ _ _ hq2 φ1 w1 a1 _ _ (@Step.rel T TZ _ _ _ _ _ _ hst1) ha1 (by decide) (@ZAv T φ1 a1 _ _ (by decide) hv1) (fun _ φ2 a2 w2 hst2 ha2 hv2=>?_) (fun i h=>by cases h) (fun h=>by cases h)
 refine region_cut zBt hK c53 pre53 g53_13 hq3 (@Step.rel T TZ _ _ _ _ _ _ hst2) ha2 (by decide) (@ZAv T φ2 a2 _ _ (by decide) hv2) fun φ3 a3 w3 hst3 ha3 hv3=>?_
 have hst:=@Step.trans T TZ _ _ _ _ _ _ _ _ _ (@Step.trans T TZ _ _ _ _ _ _ _ _ _ hst1 hst2) hst3
 have hleft:=ZAb.of hst idxLW_mem_ro
 have hsz:O53_13.size-9=1:=by rw[z53_13]
 show wpAny TZ .any O53_13 _ (O53_13.size-9) L53 a3 w3
 rw[hsz]
 unfold idxEndW at hrun
 split at hrun
 rotate_left
 · cases hrun
 rename_i x2 x6 x18 x19 x20 x74 x79 x82
 simp only[Bool.and_eq_true] at hrun
 obtain ⟨⟨⟨e2,e6⟩,e18,e19,e20⟩,e74,⟨e79,e82⟩,habs⟩:=hrun
 have e2':=@ZAf tok0 2 _ _ e2
 have e6':=@ZAf tok0 2 _ _ e6
 have e18':=@ZAf tok0 2 _ _ e18
 have e19':=@ZAf tok0 2 _ _ e19
 have e20':=@ZAf tok0 2 _ _ e20
 have e74':=@ZAf tok0 2 _ _ e74
 subst e2'
 subst e6'
 subst e18'
 subst e19'
 subst e20'
 subst e74'
 obtain ⟨v2',v6',v18',v19',v20',v74',v79',v82'⟩:=vals8 hv3
 have ext:∀ q x,φ0 q=some x→φ3 q=some x:=@Step.ext T TZ _ _ _ _ _ _ hst
 have h2:a3.tmps.getD 2 undef=ptrV box:=ptr_is v2' (ext _ _ f4)
 have h6:a3.tmps.getD 6 undef=.pointer (some ⟨p,0,none⟩):=ptr_is v6' (ext _ _ f3)
 have h74:a3.tmps.getD 74 undef=.pointer (some ⟨p,0,none⟩):=ptr_is v74' (ext _ _ f3)
 have h18:a3.tmps.getD 18 undef=.slice (some ⟨rb,ro,none⟩) n cap:=ZAw v18'
 have h19:a3.tmps.getD 19 undef=.int .i64 (n:Int):=ZAw v19'
 have h20:a3.tmps.getD 20 undef=.int .i64 (i:Int):=ZAw v20'
 obtain ⟨r1,r2⟩:=symRel (T:=T) rfl (@Step.rel T TZ _ _ _ _ _ _ hst) habs
 have hlen2:2+1+([.cells true (appV (oqs (nBy κ) 20) idA),.cells true [.sym .u8 0]]:List Blk).length≤65536:=by show 2+1+2≤65536; decide
 obtain ⟨b1,b2⟩:=ZAu (G:=2) (by decide) hlen2 (i:=0) rfl
 obtain ⟨c1,c2⟩:=ZAu (G:=2) (by decide) hlen2 (i:=1) rfl
 have hfl:(fullW κ r).length=Nat.add (nBy κ) 8:=fullW_len κ r
 have hf0:0<(fullW κ r).length:=by rw[fullW_len]; omega
 have hk:ZAk (zAk w3) 1 (a3.tmps.getD 79 undef) (fullW κ r).length (zAl (fullW κ r)):=by
  rw[← hfl] at e79
  exact zCl (fun _ _ _ _=>rfl) r1 hf0 b1 b2 (by rw[ZAc]; omega) (fun us hus=>fullW_un hr rfl hb hus) (r2 _ _ (absN_up e79) _ v79')
 have hv:ZAk (zAk w3) 1 (a3.tmps.getD 82 undef) ([UInt8.ofNat r.id]:List UInt8).length (zAl [UInt8.ofNat r.id]):=by
  refine zCl (fun _ _ _ _=>rfl) r1 (by decide:0<1) c1 c2 rfl (fun us hus=>?_) (r2 _ _ (absN_up e82) _ v82')
  have e2:(UInt8.ofNat r.id).toNat=r.id:=by
   have:=hr.hi
   simp; omega
  cases hus with
  |cons q1 q2=>
   cases q2
   cases q1
   show [Value.int .u8 (r.id:Int)]=[.int .u8 ((UInt8.ofNat r.id).toNat:Int)]
   rw[e2]
 have hnew:∀ x,x∈zAo sg→x.kb≠fullW κ r:=fun x hx e=>by
  obtain ⟨_,s,hs,hk⟩:=hT.row x hx
  rw[e] at hk
  exact (hp s hs).2 (fullW_inj hr (hp s hs).1 hk).symm
 have hput:=tz_put tz_pruns (by decide) (w:=w3) (Nat.le_trans hgs hleft.2.1) (left_in hH hleft) hpn (hR.S.left hleft) (by omega) hT.tree hT.inv (by rw[hT.len]; omega) hk hv rfl (by
  rw[fullW_len]
  cases κ
  · exact .inl rfl
  · exact .inr (.inr rfl)) hnew
 refine any_call o53_9 r53_9 (R':=_) (by
  show Ends TZ 98 #[a3.tmps.getD 74 undef,a3.tmps.getD 79 undef,a3.tmps.getD 82 undef] w3 _
  rw[h74]; exact hput) fun c w4 hR4=>?_
 obtain ⟨hlx,root',sg',H',e,k1,k2,k3,k4,k5,k6,k7,k8,k9,k10,k11⟩:=hR4
 refine wpAny_done (listed:=_) r53_10 ?_ 0
 have ha4:=zCu ha3 (some 83) c
 have oth:∀ t,t≠83→(a3.put (some 83) c).tmps.getD t undef=a3.tmps.getD t undef:=fun t ht=>ZAi ha3 (by decide:83<86) _ ht
 exact hgo _ w4 root' sg' H' ha4 (by rw[oth 2 (by decide)]; exact h2) (by rw[oth 6 (by decide)]; exact h6) (by rw[oth 18 (by decide)]; exact h18) (by rw[oth 19 (by decide)]; exact h19) (by rw[oth 20 (by decide)]; exact h20)
  ((zBk.of hleft).trans hlx) k1 k2 ⟨k3.1,fun b o hb=>k3.2 b o (Nat.lt_of_lt_of_le hb hleft.2.1)⟩ k4 (put_invW hT k3.1 k5 k6 k7 k8 k9 k10 k11)
end Go.AM
namespace Go.AM
open Go.Proofs
def RowsAtW (H:Heap) (b:Option Addr) (rows:List RowW):Prop:=∀ i r,rows[i]? = some r→∃ rb ro rs v,b=some ⟨rb,ro,none⟩∧zAi H (rb,ro+i*2,rs) [.int .u64 (r.id:Int),v]∧ZAk H 3 v 2 (zBn r)
def KeyAtW (H:Heap) (κ:Bool) (key:Value):Prop:=∃ name cols prim,key=.agg #[name,cols,.bool false,prim]∧ZAk H 1 cols (nCol κ) (colsWV κ)∧name.oneCell'=true∧prim.oneCell'=true
theorem RowsAtW.mono {H H':Heap} {b:Option Addr} {rows:List RowW} (h:RowsAtW H b rows) (hH:∀ b o,H b=some o→H' b=some o):RowsAtW H' b rows:=fun i r hi=>by
 obtain ⟨rb,ro,rs,v,h1,h2,h3⟩:=h i r hi
 exact ⟨rb,ro,rs,v,h1,h2.mono hH,h3.mono hH⟩
structure IdxAtW (κ:Bool) (rows:List RowW) (p:Nat) (box:Img) (H0:Heap) (w1:World) (b:Option Addr) (cap i:Nat) (a:Act) (w:World):Prop where
 act:zBc 86 a
 t2:a.tmps.getD 2 undef=ptrV box
 t6:a.tmps.getD 6 undef=.pointer (some ⟨p,0,none⟩)
 t18:a.tmps.getD 18 undef=.slice b rows.length cap
 t19:a.tmps.getD 19 undef=.int .i64 (rows.length:Int)
 t20:a.tmps.getD 20 undef=.int .i64 (i:Int)
 left:zBk p w1 w
 tree:∃ H root sg,In H w∧H p=none∧Onl H0 w1 H∧ZAx w p [root,.int .i64 (i:Int)]∧zBf κ (rows.take i) H root sg
theorem tree_nilW {κ:Bool} {H:Heap} {x:Img} (h:zAi H x [nilS,nilS,nilS]):zBf κ [] H (ptrV x) [(nilS,[])] where
 tree:=.one x nilS [] rfl rfl rfl (leaf_nil h) (fun e he=>by cases he)
 inv:={
  ne:=by simp
  first:=fun s hs=>by
   simp only[List.getElem?_cons_zero,Option.some.injEq] at hs
   subst hs; rfl
  firsts:=fun i s h0 hs=>by
   match i,h0,hs with
   |i+1,_,hs=>simp at hs
  sorted:=List.Pairwise.nil
  keys:=fun e he=>by cases he
  small:=fun s hs=>by
   rw[List.mem_singleton] at hs
   subst hs
   exact Nat.zero_le _
  big:=fun h=>absurd h (by simp) }
 len:=rfl
 row e he:=by cases he
 all s hs:=by cases hs
 vals e he:=by cases he
section
attribute [local irreducible] O53_3 O53_14 O53_2 O53_1 BD53 LB53 X53_15 R53_0
variable {κ:Bool} {rows:List RowW} {p:Nat} {box:Img} {H0:Heap} {w1:World} {b:Option Addr} {cap:Nat}
theorem idx_loop_roundW (hok:∀ r,r∈rows→RowWOk r) (hids:rows.Pairwise fun r s=>r.id≠s.id) (hlen:rows.length≤50) (hrows:RowsAtW (heapX p w1) b rows) {name cols prim:Value} (hbox:zAi (heapX p w1) box [name,cols,.bool false,prim]) (hcols:ZAk (heapX p w1) 1 cols (nCol κ) (colsWV κ)) (hname:name.oneCell'=true) (hprim:prim.oneCell'=true)
 (hgs:2≤w1.heap.size) {i:Nat} {a:Act} {w:World} (hi:i≤rows.length) (h:IdxAtW κ rows p box H0 w1 b cap i a w) {Q:Exit→Act→World→Prop} (hgo:i<rows.length→∀ a' w',IdxAtW κ rows p box H0 w1 b cap (i+1) a' w'→Q .normal a' w')
 (hend:i=rows.length→∀ a',zBc 86 a'→a'.tmps.getD 6 undef=.pointer (some ⟨p,0,none⟩)→Q (.exit 0) a' w):LB53.wp TZ Q a w:=by
 rw[lb53_is]
 refine wp_seq (wp_region ?_)
 rw[o53_s3]
 show wpOps TZ O53_3 _ [0] a w
 refine ZCs o53_30 (fun o ho=>run_lt ho h.t20 h.t19) ?_
 have ha1:=zCu h.act (some 21) (.bool (decide ((i:Int)<(rows.length:Int))))
 have e21:=zBm h.act (by decide:21<86) (.bool (decide ((i:Int)<(rows.length:Int))))
 have oth:∀ t,t≠21→(a.put (some 21) (.bool (decide ((i:Int)<(rows.length:Int))))).tmps.getD t undef=a.tmps.getD t undef:=fun t ht=>ZAi h.act (by decide:21<86) _ ht
 generalize a.put (some 21) (.bool (decide ((i:Int)<(rows.length:Int))))=a1 at ha1 e21 oth
 show Code.wp TZ (.seq (.cond (.tmp 21) .skip (.exit 0)) (.seq (.block 1 BD53) (.region 14 O53_14 false))) Q a1 w
 refine wp_seq ?_
 by_cases hlt:i<rows.length
 rotate_left
 · have hd:decide ((i:Int)<(rows.length:Int))=false:=decide_eq_false (by omega)
   rw[hd] at e21
   refine wp_cond_false (by rw[evTmp]; exact e21) (Go.wp_exit ?_)
   have hie:i=rows.length:=by omega
   exact hend hie a1 ha1 (by rw[oth 6 (by decide)]; exact h.t6)
 have hd:decide ((i:Int)<(rows.length:Int))=true:=decide_eq_true (by omega)
 rw[hd] at e21
 refine wp_cond_true (by rw[evTmp]; exact e21) (Go.wp_skip ?_)
 show Code.wp TZ (.seq (.block 1 BD53) (.region 14 O53_14 false)) Q a1 w
 have hri:=List.getElem?_eq_getElem hlt
 have hmem:rows[i]∈rows:=List.getElem_mem hlt
 have hpre:∀ s,s∈rows.take i→s∈rows:=fun s hs=>List.mem_of_mem_take hs
 have hsplit:rows=rows.take i++rows[i]::rows.drop (i+1):=by
  rw[← List.drop_eq_getElem_cons hlt,List.take_append_drop]
 have htake:rows.take (i+1)=rows.take i++[rows[i]]:=List.take_succ_eq_append_getElem hlt
 have hdist:∀ s,s∈rows.take i→s.id≠rows[i].id:=fun s hs=>by
  have h2:=hids
  rw[hsplit] at h2
  exact (List.pairwise_append.1 h2).2.2 s hs _ (List.mem_cons_self ..)
 generalize hr:rows[i]=r at *
 obtain ⟨rb,ro,rs,v,hb,hc,hv⟩:=hrows i r hri
 obtain ⟨H,root,sg,k1,k2,k3,k4,k5⟩:=h.tree
 have hpl:(rows.take i).length=i:=by rw[List.length_take]; omega
 have hgw:2≤w.heap.size:=Nat.le_trans hgs h.left.2.1
 have t18:=h.t18
 rw[hb] at t18
 have hR:RoundAtW w κ r p root (.int .i64 ((rows.take i).length:Int)) box (rb,ro+i*2,rs):=by
  have up:∀ b o,heapX p w1 b=some o→zAk w b=some o:=fun b o ho=>by
   unfold heapX at ho
   split at ho
   · cases ho
   · rename_i hne
     exact (h.left.1 b (@ZAq tok0 w1 b _ ho) hne).trans ho
  rw[hpl]
  exact ⟨k4,⟨name,cols,prim,hbox.mono up,hcols.mono up,hname,hprim⟩,⟨v,hc.mono up,hv.mono up⟩⟩
 refine wp_seq (wp_block ?_)
 refine idx_roundW hgw (hok r hmem) (fun s hs=>⟨hok s (hpre s hs),hdist s hs⟩) (by omega) k1 k2 k5 hlt hR ha1 (by rw[oth 2 (by decide)]; exact h.t2) (by rw[oth 6 (by decide)]; exact h.t6) (by rw[oth 18 (by decide)]; exact t18) (by rw[oth 19 (by decide)]; exact h.t19) (by rw[oth 20 (by decide)]; exact h.t20) ?_
 · intro a2 w2 root' sg' H' q1 q2 q3 q4 q5 q6 q7 q8 q9 q10 q11 q12
   show Code.wp TZ (.region 14 O53_14 false) Q a2 w2
   refine wp_region ?_
   rw[o53_s14]
   show wpOps TZ O53_14 _ [0,1] a2 w2
   refine ZCs o53_140 (fun o ho=>run_inc (i:=i) ho (by omega) q6) ?_
   have ha3:=zCu q1 (some 84) (.int .i64 ((i+1:Nat):Int))
   refine ZCs o53_141 (fun o ho=>run_mv ho) ?_
   rw[zBm q1 (by decide)]
   have ha4:=zCu ha3 (some 20) (.int .i64 ((i+1:Nat):Int))
   have e20:=zBm ha3 (by decide:20<86) (.int .i64 ((i+1:Nat):Int))
   have oth2:∀ t,t≠84→t≠20→((a2.put (some 84) (.int .i64 ((i+1:Nat):Int))).put (some 20) (.int .i64 ((i+1:Nat):Int))).tmps.getD t undef=a2.tmps.getD t undef:=fun t h1 h2=>by
    rw[ZAi ha3 (by decide:20<86) _ h2,ZAi q1 (by decide:84<86) _ h1]
   generalize (a2.put (some 84) (.int .i64 ((i+1:Nat):Int))).put (some 20) (.int .i64 ((i+1:Nat):Int))=a4 at ha4 e20 oth2
   show Q .normal a4 w2
   rw[hpl] at q11
   refine hgo hlt a4 w2 ⟨ha4,by rw[oth2 2 (by decide) (by decide)]; exact q2,by rw[oth2 6 (by decide) (by decide)]; exact q3,by rw[oth2 18 (by decide) (by decide),hb]; exact q4,by rw[oth2 19 (by decide) (by decide)]; exact q5,e20,h.left.trans q7,⟨H',root',sg',q8,q9,k3.trans q10 h.left.2.1,q11,by rw[htake]; exact q12⟩⟩
end
def startRunW:Bool:=
 match oneRun TZ 86 KO R53_0 ⟨true,fun _=>false,false⟩ [(0,.agg [.opq 0,.opq 1,.bool false,.opq 2]),(1,.opq 3)] [1,2] (zAe 2 0 .none []) with
 | .ok (.tuple [x1,.ptr qb ob]) m=>and (and (aeqN 2 x1 (.opq 3)) (Nat.beq ob 0)) (and (freshNs 3 [qb]) (zAp (zAx 2 [qb]) 0 .none [.cells true [.opq 0,.opq 1,.bool false,.opq 2]] m))
 |_=>false
theorem startW_run:startRunW=true:=by kernel_rfl
def startH (Hs:Heap) (w:World) (p:Nat) (w2:World):Heap:=fun b=>if b=p then none else if b<w.heap.size then Hs b else w2.heap[b]?
theorem startH_in {w w2:World} {p:Nat}:In (startH noH w p w2) w2:=fun b o h=>by
 unfold startH at h
 split at h
 · cases h
 · split at h
   · cases h
   · exact h
theorem onl_start {H:Heap} {w w2:World} {p:Nat} (h:Onl (startH noH w p w2) w2 H) (hl:ZAb w w2) (b:Nat) (o:Obj) (ho:H b=some o):w.heap.size≤b:=by
 rcases Nat.lt_or_ge b w.heap.size with hb|hb
 · have:=h.2 b o (Nat.lt_of_lt_of_le hb hl.2.1) ho
   unfold startH at this
   split at this
   · cases this
   · cases this
 · exact hb
def IdxPostW (κ:Bool) (w:World) (rows:List RowW) (cv:Value) (w':World):Prop:=
 ZAb w w'∧∃ p H root sg,cv=.tuple #[.pointer (some ⟨p,0,none⟩),.nilIface]∧w.heap.size≤p∧In H w'∧H p=none∧(∀ b o,H b=some o→w.heap.size≤b)∧ZAx w' p [root,.int .i64 (rows.length:Int)]∧zBf κ rows H root sg
attribute [local irreducible] O53_3 O53_14 O53_2 O53_1 BD53 LB53 X53_15 R53_0 in
theorem indexedW_ok {w:World} (hgs:2≤w.heap.size) {κ:Bool} {rows:List RowW} (hok:∀ r,r∈rows→RowWOk r) (hids:rows.Pairwise fun r s=>r.id≠s.id) (hlen:rows.length≤50) {key:Value} (hkey:KeyAtW (zAk w) κ key) {b:Option Addr} {cap:Nat} (hrows:RowsAtW (zAk w) b rows) :
 Ends TZ 53 #[key,.slice b rows.length cap] w (IdxPostW κ w rows):=by
 obtain ⟨name,cols,prim,rfl,hcols,hname,hprim⟩:=hkey
 right
 refine ⟨ZBx fn53_is fn53_name fn53_body,?_⟩
 refine calls_of_wp fn53_is fn53_body ?_
 have ha0:zBc 86 { tmps:=(#[.agg #[name,cols,.bool false,prim],.slice b rows.length cap]:Array Value)++Array.replicate (fn53.ntmps-(#[.agg #[name,cols,.bool false,prim],.slice b rows.length cap]:Array Value).size) undef,defers:=[] }:=⟨by simp[fn53_nt],rfl⟩
 obtain ⟨g0,g1⟩:=@args_two fn53 (.agg #[name,cols,.bool false,prim]) (.slice b rows.length cap)
 have g0':({ tmps:=(#[.agg #[name,cols,.bool false,prim],.slice b rows.length cap]:Array Value)++Array.replicate (fn53.ntmps-(#[.agg #[name,cols,.bool false,prim],.slice b rows.length cap]:Array Value).size) undef,defers:=[] }:Act).tmps.getD 0 undef=.agg #[name,cols,.bool false,prim]:=g0
 have g1':({ tmps:=(#[.agg #[name,cols,.bool false,prim],.slice b rows.length cap]:Array Value)++Array.replicate (fn53.ntmps-(#[.agg #[name,cols,.bool false,prim],.slice b rows.length cap]:Array Value).size) undef,defers:=[] }:Act).tmps.getD 1 undef=.slice b rows.length cap:=g1
 generalize ({ tmps:=(#[.agg #[name,cols,.bool false,prim],.slice b rows.length cap]:Array Value)++Array.replicate (fn53.ntmps-(#[.agg #[name,cols,.bool false,prim],.slice b rows.length cap]:Array Value).size) undef,defers:=[] }:Act)=a0 at ha0 g0' g1'
 let T:Tok:=tokB noH (keyVals name cols prim (.slice b rows.length cap)) (keyVals_cell hname hcols.cell hprim rfl)
 have hr:@Rel T TZ (ZAh 2 []) (zAe 2 0 .none []) w:=none_rel hgs fun b o h=>by cases h
 have hrun:=startW_run
 unfold startRunW at hrun
 split at hrun
 rotate_left
 · cases hrun
 rename_i x1 qb ob m hq1
 simp only[Bool.and_eq_true,beq_true] at hrun
 obtain ⟨⟨e1,rfl⟩,hfr,habs⟩:=hrun
 have e1':=@ZAf tok0 2 _ _ e1
 subst e1'
 rw[b53_is]
 refine wp_seq ?_
 refine @one_ok TZ T KO (ko_ok T rfl) (ko_draw T rfl) 86 R53_0 (by have:=g53_s; simp only[List.all_cons,Bool.and_eq_true] at this; exact this.1) _ _ _ _ _ _ hq1 _ w a0 _ hr ha0 (by decide) (fun q hq=>?_) (fun _ φ1 a1 w1 hst ha1 hv1=>?_) (fun i h=>by cases h) (fun h=>by cases h)
 · simp only[List.mem_cons,List.not_mem_nil,or_false] at hq
   rcases hq with rfl|rfl
   · refine ⟨(by decide:0<4096),?_⟩
     show @VRel T _ (.agg [.opq 0,.opq 1,.bool false,.opq 2]) (a0.tmps.getD 0 undef)
     rw[g0']
     refine @VRel.agg T _ _ _ (@zAa.cons T _ _ _ _ _ (@VRel.opq T _ 0) (@zAa.cons T _ _ _ _ _ (@VRel.opq T _ 1) (@zAa.cons T _ _ _ _ _ (@VRel.bool T _ false) (@zAa.cons T _ _ _ _ _ (@VRel.opq T _ 2) (@zAa.nil T _))))) (fun v hv=>?_)
     simp only[List.mem_cons,List.not_mem_nil,or_false] at hv
     rcases hv with rfl|rfl|rfl|rfl<;>rfl
   · refine ⟨(by decide:1<4096),?_⟩
     show @VRel T _ (.opq 3) (a0.tmps.getD 1 undef)
     rw[g1']
     exact @VRel.opq T _ 3
 have hleft:=ZAb.of hst none_ro
 obtain ⟨r1,r2⟩:=idRel (T:=T) rfl ZAa (@Step.rel T TZ _ _ _ _ _ _ hst) habs
 have ht:=tells_new (by decide) hst none_ro hfr habs
 obtain ⟨b1,b2⟩:=ZAu (G:=2) (by decide) (l:=[.cells true [.opq 0,.opq 1,.bool false,.opq 2]]) (by show 2+1+1≤65536; decide) (i:=0) rfl
 obtain ⟨box,vs,h1,h2,h3⟩:=ZBd ht r1 b1 b2
 have h1':φ1 qb=some box:=h1
 have hvs:vs=[name,cols,.bool false,prim]:=by
  cases h3 with
  |cons q1 h3=>
  cases h3 with
  |cons q2 h3=>
  cases h3 with
  |cons q3 h3=>
  cases h3 with
  |cons q4 h3=>
  cases h3
  cases q3
  rw[ZAw q1,ZAw q2,ZAw q4]
  rfl
 subst hvs
 have k1:a1.tmps.getD 1 undef=.slice b rows.length cap∧a1.tmps.getD 2 undef=ptrV box:=by
  cases hv1 with
  |cons q1 hv1=>
  cases hv1 with
  |cons q2 hv1=>
  exact ⟨ZAw q1,ptr_is q2 h1'⟩
 obtain ⟨k1,k2⟩:=k1
 have hbox1:zAi (zAk w1) box [name,cols,.bool false,prim]:=h2.mono fun b o h=>by
  unfold upd at h
  split at h
  · cases h
  · exact h
 have hbl:box.1<w1.heap.size:=hbox1.lt (fun b o h=>h)
 have hbg:w.heap.size≤box.1:=by
  obtain ⟨c,el,fz,g1,_⟩:=h2
  unfold upd at g1
  split at g1
  · cases g1
  · omega
 have hgs1:2≤w1.heap.size:=Nat.le_trans hgs hleft.2.1
 show Code.wp TZ (.seq R53_1 (.seq (.seq (.region 2 O53_2 false) (.block 0 (.loop LB53))) X53_15)) _ a1 w1
 rw[r53_1]
 refine wp_seq (wp_region ?_)
 rw[o53_s1]
 show wpOps TZ O53_1 _ [0,1] a1 w1
 refine wpOps_call o53_10 (R':=_) (new_ok hgs1) fun c w2 ⟨p,nd,hc,hl2,hp2,hS2,hne2,hx2,hnode⟩=>?_
 subst hc
 have ha2:=zCu ha1 (some 17) (.pointer (some ⟨p,0,none⟩))
 refine ZCs o53_11 (fun o ho=>run_as ho) ?_
 rw[zBm ha1 (by decide)]
 have ha3:=zCu ha2 (some 6) (.pointer (some ⟨p,0,none⟩))
 have e6:=zBm ha2 (by decide:6<86) (.pointer (some ⟨p,0,none⟩))
 have oth:∀ t,t≠17→t≠6→((a1.put (some 17) (.pointer (some ⟨p,0,none⟩))).put (some 6) (.pointer (some ⟨p,0,none⟩))).tmps.getD t undef=a1.tmps.getD t undef:=fun t h1 h2=>by
  rw[ZAi ha2 (by decide:6<86) _ h2,ZAi ha1 (by decide:17<86) _ h1]
 generalize (a1.put (some 17) (.pointer (some ⟨p,0,none⟩))).put (some 6) (.pointer (some ⟨p,0,none⟩))=a3 at ha3 e6 oth
 have e1:a3.tmps.getD 1 undef=.slice b rows.length cap:=by rw[oth 1 (by decide) (by decide)]; exact k1
 have e2:a3.tmps.getD 2 undef=ptrV box:=by rw[oth 2 (by decide) (by decide)]; exact k2
 show Code.wp TZ (.seq (.seq (.region 2 O53_2 false) (.block 0 (.loop LB53))) X53_15) _ a3 w2
 refine wp_seq (wp_seq (wp_region ?_))
 rw[o53_s2]
 show wpOps TZ O53_2 _ [0,1,2] a3 w2
 refine ZCs o53_20 (fun o ho=>run_mv ho) ?_
 rw[e1]
 have ha4:=zCu ha3 (some 18) (.slice b rows.length cap)
 refine ZCs o53_21 (fun o ho=>run_ln tz_u67 ho (zBm ha3 (by decide) _)) ?_
 have ha5:=zCu ha4 (some 19) (.int .i64 (rows.length:Int))
 refine ZCs (v:=.int .i64 0) o53_22 (fun o ho=>by simp[execOp,ho,Act.eval]) ?_
 have ha6:=zCu ha5 (some 20) (.int .i64 0)
 have f18:(((a3.put (some 18) (.slice b rows.length cap)).put (some 19) (.int .i64 (rows.length:Int))).put (some 20) (.int .i64 0)).tmps.getD 18 undef=.slice b rows.length cap:=by
  rw[ZAi ha5 (by decide:20<86) _ (by decide),ZAi ha4 (by decide:19<86) _ (by decide),zBm ha3 (by decide)]
 have f19:(((a3.put (some 18) (.slice b rows.length cap)).put (some 19) (.int .i64 (rows.length:Int))).put (some 20) (.int .i64 0)).tmps.getD 19 undef=.int .i64 (rows.length:Int):=by
  rw[ZAi ha5 (by decide:20<86) _ (by decide),zBm ha4 (by decide)]
 have f20:=zBm ha5 (by decide:20<86) (.int .i64 0)
 have oth2:∀ t,t<18→(((a3.put (some 18) (.slice b rows.length cap)).put (some 19) (.int .i64 (rows.length:Int))).put (some 20) (.int .i64 0)).tmps.getD t undef=a3.tmps.getD t undef:=fun t ht=>by
  rw[ZAi ha5 (by decide:20<86) _ (by omega),ZAi ha4 (by decide:19<86) _ (by omega),ZAi ha3 (by decide:18<86) _ (by omega)]
 generalize ((a3.put (some 18) (.slice b rows.length cap)).put (some 19) (.int .i64 (rows.length:Int))).put (some 20) (.int .i64 0)=a6 at ha6 f18 f19 f20 oth2
 show Code.wp TZ (.block 0 (.loop LB53)) _ a6 w2
 have hpn:w.heap.size≤p:=Nat.le_trans hleft.2.1 hp2
 have hl12:ZAb w w2:=hleft.trans hl2
 have hup:∀ b o,zAk w b=some o→heapX p w2 b=some o:=fun b o h=>by
  have hb:b<w.heap.size:=@ZAq tok0 w b _ h
  have hb1:b<w1.heap.size:=Nat.lt_of_lt_of_le hb hleft.2.1
  rw[heapX_at (by omega),hl2.1 b hb1,hleft.1 b hb]; exact h
 have hbox2:zAi (heapX p w2) box [name,cols,.bool false,prim]:=hbox1.at_ (by
  rw[heapX_at (by omega)]; exact hl2.1 _ hbl)
 have hnode2:zAi (startH noH w p w2) nd [nilS,nilS,nilS]:=hnode.at_ (by
  unfold startH
  rw[if_neg hne2,if_neg (by have:=hleft.2.1; omega)]; rfl)
 have hstart:IdxAtW κ rows p box (startH noH w p w2) w2 b cap 0 a6 w2:=
  ⟨ha6,by rw[oth2 2 (by decide)]; exact e2,by rw[oth2 6 (by decide)]; exact e6,f18,f19,f20,⟨fun _ _ _=>rfl,Nat.le_refl _,rfl,rfl,rfl⟩,⟨startH noH w p w2,ptrV nd,_,startH_in,if_pos rfl,Onl.refl,hS2,tree_nilW hnode2⟩⟩
 have hgs2:2≤w2.heap.size:=Nat.le_trans hgs1 hl2.2.1
 have fin:∀ {w':World},zBk p w2 w'→ZAb w w':=fun {w'} hx=>
  ⟨fun b hb=>(hx.1 b (Nat.lt_of_lt_of_le hb hl12.2.1) (by omega)).trans (hl12.1 b hb),Nat.le_trans hl12.2.1 hx.2.1,hx.2.2.1.trans hl12.2.2.1,hx.2.2.2.1.trans hl12.2.2.2.1,hx.2.2.2.2.trans hl12.2.2.2.2⟩
 refine wp_block ?_
 refine wp_loop_ghost (fun k a wx=>k≤rows.length∧IdxAtW κ rows p box (startH noH w p w2) w2 b cap (rows.length-k) a wx) rows.length ⟨Nat.le_refl _,by rw[Nat.sub_self]; exact hstart⟩ ?_
 rintro k a7 w7 ⟨hk,h7⟩
 refine idx_loop_roundW hok hids hlen (hrows.mono hup) hbox2 (hcols.mono hup) hname hprim hgs2 (by omega) h7 (fun hlt a' w' h8=>?_) (fun he a' ha' g6=>?_)
 · refine ⟨k-1,by omega,by omega,?_⟩
   have:rows.length-(k-1)=rows.length-k+1:=by omega
   rw[this]; exact h8
 · refine then_exit ?_
   show Code.wp TZ X53_15 _ a' w7
   obtain ⟨H7,root7,sg7,m1,m2,m3,m4,m5⟩:=h7.tree
   rw[he] at m4
   rw[he,List.take_length] at m5
   have hrunE:=end_run
   unfold endRun at hrunE
   split at hrunE
   rotate_left
   · cases hrunE
   rename_i x4 x5 mE hqE
   rw[Bool.and_eq_true] at hrunE
   obtain ⟨d4,d5⟩:=hrunE
   have d4':=@ZAf tok0 2 _ _ d4
   have d5':=@ZAf tok0 2 _ _ d5
   subst d4'
   subst d5'
   let T2:Tok:=tokB noH (fun _=>.pointer (some ⟨p,0,none⟩)) (fun _=>rfl)
   have hgs7:2≤w7.heap.size:=Nat.le_trans hgs2 h7.left.2.1
   have hr7:@Rel T2 TZ (ZAh 2 []) (zAe 2 0 .none []) w7:=none_rel hgs7 fun b o h=>by cases h
   refine @one_ok TZ T2 KO (ko_ok T2 rfl) (ko_draw T2 rfl) 86 X53_15 g53_e _ _ _ _ _ _ hqE _ w7 a' _ hr7 ha' (by decide) (fun q hq=>?_) (fun h=>by cases h) (fun i h=>by cases h) (fun _ φ8 a8 w8 hst8 ha8 hv8=>?_)
   · rw[List.mem_singleton] at hq
     subst hq
     refine ⟨(by decide:6<4096),?_⟩
     show @VRel T2 _ (.opq 0) (a'.tmps.getD 6 undef)
     rw[g6]; exact @VRel.opq T2 _ 0
   · have hl8:=ZAb.of hst8 none_ro
     refine ⟨ha8.defers,_,results_two fn53_res _ w8,_,rfl,(fin h7.left).trans hl8,p,H7,root7,sg7,?_,hpn,left_in m1 hl8,m2,onl_start m3 hl12,m4.left hl8,m5⟩
     cases hv8 with
     |cons q1 hv8=>
     cases hv8 with
     |cons q2 hv8=>
     have q1':a8.tmps.getD 4 undef=.pointer (some ⟨p,0,none⟩):=ZAw q1
     have q2':@VRel T2 φ8 .niliface (a8.tmps.getD 5 undef):=q2
     generalize hc5:a8.tmps.getD 5 undef=c5 at q2'
     cases q2'
     rw[q1']
end Go.AM
namespace Go.AM
open Go.Proofs
structure ZBp (rows:List RowW) (next:Nat):Prop where
 ok:∀ r,r∈rows→RowWOk r
 lt:∀ r,r∈rows→r.id<next
 sorted:rows.Pairwise fun r s=>r.id<s.id
 len:rows.length≤50
 next:1≤next∧next≤100
def numsW:List RowW→List Value
 | []=>[]
 |r::l=>.int .i64 (numZ r.a)::.int .i64 (numZ (128+r.b))::numsW l
theorem numsW_get:∀ {rows:List RowW} {j:Nat} {r:RowW},rows[j]? = some r→(numsW rows)[2*j]? = some (.int .i64 (numZ r.a))∧(numsW rows)[2*j+1]? = some (.int .i64 (numZ (128+r.b)))
 |s::l,0,r,h=>by
  simp only[List.getElem?_cons_zero,Option.some.injEq] at h
  subst h
  exact ⟨rfl,rfl⟩
 |s::l,j+1,r,h=>by
  rw[List.getElem?_cons_succ] at h
  exact numsW_get (rows:=l) h
theorem numsW_cell:∀ {rows:List RowW} {v:Value},v∈numsW rows→v.oneCell'=true
 |r::l,v,h=>by
  simp only[numsW,List.mem_cons] at h
  rcases h with rfl|rfl|h
  · rfl
  · rfl
  · exact numsW_cell h
def valF (f:Nat→Value) (rows:List RowW) (j:Nat):Value:=if j<1000 then f j else ((numsW rows)[j-1000]?).getD nilS
theorem valF_cell {f:Nat→Value} (hf:∀ j,(f j).oneCell'=true) (rows:List RowW) (j:Nat):(valF f rows j).oneCell'=true:=by
 unfold valF
 split
 · exact hf j
 · cases h:(numsW rows)[j-1000]? with
   |none=>rfl
   |some v=>exact numsW_cell (List.mem_of_getElem? h)
theorem zCx {f:Nat→Value} {rows:List RowW} {j:Nat} (h:j<1000):valF f rows j=f j:=if_pos h
theorem valF_row {f:Nat→Value} {rows:List RowW} {j:Nat} {r:RowW} (h:rows[j]? = some r):valF f rows (1000+2*j)=.int .i64 (numZ r.a)∧valF f rows (1001+2*j)=.int .i64 (numZ (128+r.b)):=by
 obtain ⟨h1,h2⟩:=numsW_get h
 unfold valF
 rw[if_neg (by omega),if_neg (by omega),show 1000+2*j-1000=2*j by omega,show 1001+2*j-1000=2*j+1 by omega,h1,h2]
 exact ⟨rfl,rfl⟩
def idAt (rows:List RowW) (j:Nat):Nat:=((rows[j]?).map RowW.id).getD 0
theorem idAt_of {rows:List RowW} {j:Nat} {r:RowW} (h:rows[j]? = some r):idAt rows j=r.id:=by unfold idAt; rw[h]; rfl
theorem idAt_ex {rows:List RowW} {j:Nat} (h:j<rows.length):∃ r,rows[j]? = some r∧r∈rows∧idAt rows j=r.id:=
 ⟨rows[j],List.getElem?_eq_getElem h,List.getElem_mem h,idAt_of (List.getElem?_eq_getElem h)⟩
@[reducible] def tokX (rows:List RowW) (next:Nat) (h:ZBp rows next) (f:Nat→Value) (hf:∀ j,(f j).oneCell'=true):Tok where
 num j:=(idAt rows j:Int)
 cnt:=rows.length
 pos j hj:=by
  obtain ⟨r,_,h2,h3⟩:=idAt_ex hj
  have:=(h.ok r h2).pos
  omega
 hi j hj:=by
  obtain ⟨r,_,h2,h3⟩:=idAt_ex hj
  have:=(h.ok r h2).hi
  omega
 mono i j hij hj:=by
  obtain ⟨r,h1,h2,h3⟩:=idAt_ex (Nat.lt_trans hij hj)
  obtain ⟨s,k1,k2,k3⟩:=idAt_ex hj
  have hs:=List.pairwise_iff_getElem.1 h.sorted i j (Nat.lt_trans hij hj) hj hij
  rw[List.getElem?_eq_getElem (Nat.lt_trans hij hj)] at h1
  rw[List.getElem?_eq_getElem hj] at k1
  cases h1
  cases k1
  omega
 base:=(next:Int)
 val:=valF f rows
 cell:=valF_cell hf rows
theorem tokX_nx {rows:List RowW} {next:Nat} {h:ZBp rows next} {f:Nat→Value} {hf:∀ j,(f j).oneCell'=true}:@Tok.nxok (tokX rows next h f hf):=by
 refine ⟨?_,?_,fun j hj=>?_⟩
 · have:=h.next.1
   show (1:Int)≤(next:Int)
   omega
 · have:=h.next.2
   show (next:Int)≤120
   omega
 · obtain ⟨r,_,h2,h3⟩:=idAt_ex hj
   have:=h.lt r h2
   show (idAt rows j:Int)<(next:Int)
   omega
theorem symsW_get:∀ {n k j:Nat},j<n→(symsW n k)[j]? = some (.sym .u64 (k+j))
 |n+1,k,0,_=>rfl
 |n+1,k,j+1,h=>by
  show (_::symsW n (k+1))[j+1]? = _
  rw[List.getElem?_cons_succ,symsW_get (n:=n) (by omega),show k+1+j=k+(j+1) by omega]
theorem symsW_len:∀ n k:Nat,(symsW n k).length=n
 |0,_=>rfl
 |n+1,k=>by show (symsW n (k+1)).length+1=_; rw[symsW_len n (k+1)]
section
variable {rows:List RowW} {next:Nat} {hok:ZBp rows next}
theorem canonW {f f':Nat→Value} {hf:∀ j,(f j).oneCell'=true} {hf':∀ j,(f' j).oneCell'=true} {κ:Nat} (hff:∀ j,j≤κ→f' j=f j) {φ:Phi} {m:Mem} {w:World} {ns:List Nat} {L:List Blk}
 (hr:@Rel (tokX rows next hok f hf) TZ φ m w) (habs:zAp (mapW κ rows.length ns) 0 b00 L m=true) :
 @Rel (tokX rows next hok f' hf') TZ (zAj (mapW κ rows.length ns) φ) (zAe 2 0 b00 L) w∧∀ t s,absN (mapW κ rows.length ns) 4 t s=true→∀ c,@VRel (tokX rows next hok f hf) φ s c→@VRel (tokX rows next hok f' hf') (zAj (mapW κ rows.length ns) φ) t c:=by
 refine absorb (T:=tokX rows next hok f hf) (T':=tokX rows next hok f' hf') (σ:=mapW κ rows.length ns) ZAa.symm hr habs (fun k j c hj hc=>?_) (fun k d s c hs hc=>?_) (fun i s c hs hc=>?_) (fun b o h=>by cases h) (fun h=>by cases h)
 · have hj':j<rows.length:=by
    have:(mapW κ rows.length ns).ts.length=rows.length:=symsW_len _ _
    omega
   have e:(mapW κ rows.length ns).tok j=.sym .u64 j:=by
    rw[tok_eq]
    show ((symsW rows.length 0)[j]?).getD .bad=_
    rw[symsW_get hj',Nat.zero_add]; rfl
   rw[e] at hc
   cases hc with
   |sym _ _ h=>exact @VRel.sym (tokX rows next hok f' hf') _ k j hj'
 · have e:=@ZAf tok0 2 _ _ hs
   subst e
   have hc':@VRel (tokX rows next hok f hf) φ (.nx k d) c:=hc
   cases hc' with
   |nx _ _ h hn=>exact @VRel.nx (tokX rows next hok f' hf') _ k d h tokX_nx
 · have hs':aeqN 2 s (zAc (.opq i) .bad (or (Nat.ble i κ) (Nat.ble 1000 i)))=true:=hs
   rw[zAn] at hs'
   split at hs'
   · rename_i hb
     have e:=@ZAf tok0 2 _ _ hs'
     subst e
     have e2:=ZAw hc
     have e3:c=@Tok.val (tokX rows next hok f' hf') i:=by
      rw[e2]
      show valF f rows i=valF f' rows i
      by_cases hi:i<1000
      · rw[zCx hi,zCx hi]
        have hk:i≤κ:=by
         rw[Bool.or_eq_true,zAd,zAd] at hb
         omega
        exact (hff i hk).symm
      · unfold valF
        rw[if_neg hi,if_neg hi]
     rw[e3]
     exact @VRel.opq (tokX rows next hok f' hf') _ i
   · exact (aeq_bad hs').elim
theorem zipW {T T':Tok} {φ φ':Phi} {σ:Map} (h:∀ t s,absN σ 4 t s=true→∀ c,@VRel T φ s c→@VRel T' φ' t c):∀ {tv sv:List AVal} {cs:List Value},zipB (absN σ 4) tv sv=true→tv.length=sv.length→@zAa T φ sv cs→@zAa T' φ' tv cs
 | [],[],_,_,_,hv=>by cases hv; exact @zAa.nil T' φ'
 | [],_::_,_,_,hl,_=>by simp at hl
 |t::tv,[],_,hz,_,_=>by cases hz
 |t::tv,s::sv,_,hz,hl,hv=>by
  cases hv with
  | @cons _ c _ cs h1 h2=>
   have h':zAc (zipB (absN σ 4) tv sv) false (absN σ 4 t s)=true:=hz
   cases hb:absN σ 4 t s with
   |false=>rw[hb] at h'; cases h'
   |true=>
    rw[hb] at h'
    exact @zAa.cons T' φ' _ _ _ _ (h t s hb c h1) (zipW h h' (by simpa using hl) h2)
end
theorem ret_ok [T:Tok] {K:KH} (hK:zBb TZ K) (hD:DrawOk TZ K) {nt:Nat} {X:Code} (hg:ZBh TZ.globals.size X=true) {fn:Func} {res:List ResultVar} (hres:fn.results.toList=res) {l:List (Nat×AVal)} {v:AVal} {m mf:Mem} (h:retRun TZ nt K X res l m=.ok v mf)
 {φ:Phi} {w:World} {a:Act} {Q:Exit→Act→World→Prop} (hr:Rel TZ φ m w) (ha:zBc nt a) (hnt:nt≤4096) (hl:∀ p,p∈l→p.1<4096∧VRel φ p.2 (a.tmps.getD p.1 undef))
 (hn:∀ φ' a' w' c,Step TZ φ m w φ' mf w'→a'.defers=[]→(results fn a'.tmps).run TZ w'=.ok c w'→VRel φ' v c→Q .ret a' w'):X.wp TZ Q a w:=by
 refine zCr hK hD X hg h hr (pick_rel ha hnt hl) ?_ ?_ ?_
 · intro φ' r' m' a' w' hst ha' h3; cases h3
 · intro i φ' r' m' a' w' hst ha' h3; cases h3
 · intro φ' r' m' a' w' hst ha' h3
   obtain ⟨vs,h4,h5⟩:=cResults_ok (P:=TZ) (nt:=nt) h3
   obtain ⟨cs,h6,h7⟩:=h5 hst.rel ha'
   cases h4
   refine hn φ' a' w' (if h:cs.toArray.size=1 then cs.toArray[0] else .tuple cs.toArray) hst ha'.defers ?_ ?_
   · rw[results_eq]
     simp[Array.mapM_eq_mapM_toList,hres,h7]
   · cases h6 with
     |nil=>exact .tuple [] #[] .nil
     |cons h6 h8=>
      cases h8 with
      |nil=>simpa[oneOf] using h6
      |cons h8 h9=>
       simp only[List.size_toArray,List.length_cons]
       rw[dif_neg (by omega)]
       exact .tuple _ _ (.cons h6 (.cons h8 h9))
end Go.AM
namespace Go.AM
open Go.Proofs
theorem b23_is:B23=seqsC CS23 (.seq (.seq (sl S23_19) (.block 4 (.loop LB23))) X23):=by kernel_rfl
theorem lb23_is:LB23=seqsC [H23,C23] (.seq (.block 5 BD23) R23_26):=by kernel_rfl
theorem bd23_is:BD23=.seq R23_21 (.seq (.region 22 ZBg false) (.seq S23_23 R23_25)):=by kernel_rfl
theorem g23:CS23.all (ZBh TZ.globals.size)=true:=by kernel_rfl
theorem g23_19:[sl S23_19].all (ZBh TZ.globals.size)=true:=by kernel_rfl
theorem g23_hc:[H23,C23].all (ZBh TZ.globals.size)=true:=by kernel_rfl
theorem g23_21:[R23_21].all (ZBh TZ.globals.size)=true:=by kernel_rfl
theorem g23_22a:(zBl 2 ZBg.toList).all (ZBo TZ.globals.size)=true:=by kernel_rfl
theorem g23_22b:(ZAe 3 ZBg.toList).all (ZBo TZ.globals.size)=true:=by kernel_rfl
theorem l23_22a:(zBl 2 ZBg.toList).length=2:=by kernel_rfl
theorem l23_22b:(ZAe 3 ZBg.toList).length=5:=by kernel_rfl
theorem t23_22a:(ZBg.toList.drop 0).take (zBl 2 ZBg.toList).length=zBl 2 ZBg.toList:=by kernel_rfl
theorem t23_22b:(ZBg.toList.drop 3).take (ZAe 3 ZBg.toList).length=ZAe 3 ZBg.toList:=by kernel_rfl
theorem g23_23:[S23_23].all (ZBh TZ.globals.size)=true:=by kernel_rfl
theorem g23_25:ZBh TZ.globals.size R23_25=true:=by kernel_rfl
theorem g23_26:ZBh TZ.globals.size R23_26=true:=by kernel_rfl
theorem g23_x:ZBh TZ.globals.size X23=true:=by kernel_rfl
theorem o23_22:CallAt ZBg 2 104 53 [102,103]:=callAtB (by kernel_rfl) (by kernel_rfl) (by kernel_rfl) (by kernel_rfl)
theorem s23_22:ZBg.size=8:=by kernel_rfl
def fn23:Func:=(TZ.funcs[23]?).getD default
theorem fn23_is:TZ.funcs[23]? = some fn23:=by kernel_rfl
theorem fn23_body:fn23.body=some B23:=by kernel_rfl
theorem fn23_nt:fn23.ntmps=124:=by kernel_rfl
theorem fn23_res:fn23.results.toList=res23:=by kernel_rfl
theorem fn23_name:fn23.name≠ "runtime.NumGoroutine":=by
 have h:(fn23.name == "runtime.NumGoroutine")=false:=by kernel_rfl
 intro e
 rw[e] at h; simp at h
theorem rowW_get:∀ (A n k i:Nat),i<n→(rowW A (natL n k))[2*i]? = some (.sym .u64 (k+i))∧(rowW A (natL n k))[2*i+1]? = some (.slice (A+(k+i)) 0 2 2 false 3)
 |A,0,_,i,h=>by omega
 |A,n+1,k,0,_=>⟨rfl,rfl⟩
 |A,n+1,k,i+1,h=>by
  obtain ⟨h1,h2⟩:=rowW_get A n (k+1) i (by omega)
  have e1:2*(i+1)=2*i+1+1:=by omega
  refine ⟨?_,?_⟩
  · rw[e1]
    show (_::_::rowW A (natL n (Nat.succ k)))[2*i+1+1]? = _
    rw[List.getElem?_cons_succ,List.getElem?_cons_succ,show k+(i+1)=k+1+i by omega]
    exact h1
  · rw[e1]
    show (_::_::rowW A (natL n (Nat.succ k)))[2*i+1+1+1]? = _
    rw[List.getElem?_cons_succ,List.getElem?_cons_succ,show k+(i+1)=k+1+i by omega]
    exact h2
theorem rowW_len:∀ A n k:Nat,(rowW A (natL n k)).length=2*n
 |_,0,_=>rfl
 |A,n+1,k=>by
  show (rowW A (natL n (k+1))).length+1+1=_
  rw[rowW_len A n (k+1)]; omega
theorem valsWL_get:∀ (n k i:Nat),i<n→(valsWL (natL n k))[i]? = some (.cells true (valW (k+i)))
 |0,_,i,h=>by omega
 |n+1,k,0,_=>rfl
 |n+1,k,i+1,h=>by
  show (_::valsWL (natL n (k+1)))[i+1]? = _
  rw[List.getElem?_cons_succ,valsWL_get n (k+1) i (by omega),show k+1+i=k+(i+1) by omega]
theorem valsWL_len:∀ n k:Nat,(valsWL (natL n k)).length=n
 |0,_=>rfl
 |n+1,k=>by show (valsWL (natL n (k+1))).length+1=_; rw[valsWL_len n (k+1)]
theorem valW_un {T:Tok} {φ:Phi} {j:Nat} {r:RowW} (ha:T.val (1000+2*j)=.int .i64 (numZ r.a)) (hb:T.val (1001+2*j)=.int .i64 (numZ (128+r.b))) {vs:List Value} (h:@zAa T φ (valW j) vs):vs=zBn r:=by
 obtain ⟨c1,c2,c3,c4,c5,c6,rfl,h1,h2,h3,h4,h5,h6⟩:=vsB h
 cases h1
 cases h4
 rw[strE h3,strE h6,ZAw h2,ZAw h5]
 have e1:T.val (Nat.add 1000 (Nat.mul 2 j))=.int .i64 (numZ r.a):=ha
 have e2:T.val (Nat.add 1001 (Nat.mul 2 j))=.int .i64 (numZ (128+r.b)):=hb
 rw[e1,e2]; rfl
section
variable {rows:List RowW} {next:Nat} {hok:ZBp rows next} {f:Nat→Value} {hf:∀ j,(f j).oneCell'=true}
theorem valW_row {j:Nat} {r:RowW} (h:rows[j]? = some r) {φ:Phi} {vs:List Value} (hv:@zAa (tokX rows next hok f hf) φ (valW j) vs):vs=zBn r:=
 valW_un (T:=tokX rows next hok f hf) (valF_row h).1 (valF_row h).2 hv
theorem sym_row {j:Nat} {r:RowW} (h:rows[j]? = some r) {φ:Phi} {c:Value} (hv:@VRel (tokX rows next hok f hf) φ (.sym .u64 j) c):c=.int .u64 (r.id:Int):=by
 cases hv with
 |sym _ _ _=>
  show Value.int .u64 (idAt rows j:Int)=_
  rw[idAt_of h]
theorem colsQ {φ:Phi} {w:World} {q:Nat} (hq:q<2) (hlen:2+1+(kqL rows.length q []).length≤65536) (hr:@Rel (tokX rows next hok f hf) TZ φ (zAe 2 0 b00 (kqL rows.length q [])) w) {cv:Value} (h:@VRel (tokX rows next hok f hf) φ (.slice (Nat.add 10 q) 0 (Nat.sub 2 q) (Nat.sub 2 q) false 1) cv) :
 ZAk (zAk w) 1 cv (nCol (Nat.beq q 0)) (colsWV (Nat.beq q 0)):=by
 match q,hq with
 |0,_=>
  have e1:(kqL rows.length 0 [])[7]? = some (.cells true [.int .i64 0,.int .i64 1]):=rfl
  obtain ⟨c1,c2⟩:=zAv (b0:=b00) hlen e1
  have h':@VRel (tokX rows next hok f hf) φ (.slice 10 0 2 2 false 1) cv:=h
  have c1':10<(zAe 2 0 b00 (kqL rows.length 0 [])).next:=c1
  have c2':(zAe 2 0 b00 (kqL rows.length 0 [])).get 10=.cells true [.int .i64 0,.int .i64 1]:=c2
  refine zCl (P:=TZ) (vs:=[.int .i64 0,.int .i64 1]) zBu hr (by decide:0<2) c1' c2' rfl (fun vs h=>?_) h'
  cases h with
  |cons h1 h=>
  cases h with
  |cons h2 h=>
  cases h
  cases h1
  cases h2
  rfl
 |1,_=>
  have e1:(kqL rows.length 1 [])[8]? = some (.cells true [.int .i64 1]):=rfl
  obtain ⟨c1,c2⟩:=zAv (b0:=b00) hlen e1
  have h':@VRel (tokX rows next hok f hf) φ (.slice 11 0 1 1 false 1) cv:=h
  have c1':11<(zAe 2 0 b00 (kqL rows.length 1 [])).next:=c1
  have c2':(zAe 2 0 b00 (kqL rows.length 1 [])).get 11=.cells true [.int .i64 1]:=c2
  refine zCl (P:=TZ) (vs:=[.int .i64 1]) zBu hr (by decide:0<1) c1' c2' rfl (fun vs h=>?_) h'
  cases h with
  |cons h1 h=>
  cases h
  cases h1
  rfl
theorem kq_at {φ:Phi} {w:World} {q:Nat} (hq:q<2) (hr:@Rel (tokX rows next hok f hf) TZ φ (zAe 2 0 b00 (kqL rows.length q [])) w) {kv rv:Value} (hk:@VRel (tokX rows next hok f hf) φ (keyQ q) kv) (hrv:@VRel (tokX rows next hok f hf) φ (slW 15 rows.length 2) rv) :
 KeyAtW (zAk w) (Nat.beq q 0) kv∧∃ b cap,rv=.slice b rows.length cap∧RowsAtW (zAk w) b rows:=by
 have hlen:2+1+(kqL rows.length q []).length≤65536:=by
  have h50:=hok.len
  show 2+1+((kqTail rows.length []).length+3+9)≤65536
  have:(kqTail rows.length []).length≤2+2*rows.length:=by
   unfold kqTail
   cases rows.length with
   |zero=>exact Nat.zero_le _
   |succ k=>
    show (ZCa _ (ZCa _ [])).length+1+1≤_
    rw[ZBm,ZBm,List.length_append,List.length_append,valsWL_len]
    simp only[List.length_nil]; omega
  omega
 refine ⟨?_,?_⟩
 · unfold keyQ at hk
   cases hk with
   |agg _ cs hcs hcc=>
    generalize hcl:cs.toList=L' at hcs
    cases hcs with
    | @cons _ v1 _ _ q1 hcs=>
    cases hcs with
    | @cons _ v2 _ _ q2 hcs=>
    cases hcs with
    | @cons _ v3 _ _ q3 hcs=>
    cases hcs with
    | @cons _ v4 _ _ q4 hcs=>
    cases hcs
    have hcols:=colsQ hq hlen hr q2
    cases q3
    cases q1 with
    |any x1 o1=>
    cases q4 with
    |any x4 o4=>
    exact ⟨v1,v2,v4,by rw[show cs=#[v1,v2,.bool false,v4] by rw[← Array.toList_inj,hcl]],hcols,o1,o4⟩
 · cases hm:rows.length with
   |zero=>
    rw[hm] at hrv
    have hrv':@VRel (tokX rows next hok f hf) φ .nilslice rv:=hrv
    cases hrv'
    refine ⟨none,0,rfl,fun i r hi=>?_⟩
    have:=zAf hi
    omega
   |succ k=>
    rw[hm] at hrv
    have hrv':@VRel (tokX rows next hok f hf) φ (.slice 15 0 (k+1) (k+1) false 2) rv:=hrv
    have d0:(kqL rows.length q [])[12]? = some (.cells true (rowW 17 (natL (k+1) 0))):=by rw[hm]; rfl
    obtain ⟨d1,d2⟩:=zAv (b0:=b00) hlen d0
    obtain ⟨x,vs,g1,g2,g3⟩:=ZBd (P:=TZ) zBu hr d1 d2
    have g1':φ 15=some x:=g1
    have hvl:=@zAa.length (tokX rows next hok f hf) φ _ _ g3
    rw[rowW_len] at hvl
    cases hrv' with
    |slice _ _ _ _ _ _ cb co sz o' cap' q1 q2 q3 q4 q5 q6=>
     rw[g1'] at q1
     cases q1
     have ho:=q5 (by omega)
     rw[Nat.add_zero] at ho
     subst ho
     refine ⟨_,_,rfl,fun i r hi=>?_⟩
     have hik:=zAf hi
     obtain ⟨e1,e2⟩:=rowW_get 17 (k+1) 0 i (by omega)
     rw[Nat.zero_add] at e1 e2
     obtain ⟨idv,f1,f2⟩:=@zAa.get (tokX rows next hok f hf) φ _ _ g3 _ _ e1
     obtain ⟨vv,f3,f4⟩:=@zAa.get (tokX rows next hok f hf) φ _ _ g3 _ _ e2
     have f2':=sym_row hi f2
     subst f2'
     have s1:(kqL rows.length q [])[14+i]? = some (.cells true (valW i)):=by
      rw[hm]
      show (_::_::_::_::_::_::_::_::_::_::_::_::_::_::ZCa (valsWL (natL (k+1) 0)) (ZCa (valsWL (natL (k+1) 0)) []))[14+i]? = _
      rw[ZBm,show 14+i=i+14 by omega]
      simp only[List.getElem?_cons_succ]
      rw[List.getElem?_append_left (by rw[valsWL_len]; omega),valsWL_get (k+1) 0 i (by omega),Nat.zero_add]
     obtain ⟨t1,t2⟩:=zAv (b0:=b00) hlen s1
     rw[show 3+(14+i)=17+i by omega] at t1 t2
     have hs:=g2.part (i:=2*i) (k:=2) (by omega)
     rw[pair_at f1 f3] at hs
     refine ⟨cb,_,sz,vv,rfl,?_,?_⟩
     · rw[show i*2=2*i by omega]
       exact hs
     · exact zCl (P:=TZ) zBu hr (by decide:0<2) t1 t2 rfl (fun us hus=>valW_row hi hus) f4
end
end Go.AM
namespace Go.AM
set_option maxRecDepth 100000
theorem kRow_all:∀ n,n<51→kRow n=true:=fun _ h=>pick1 (zAb kRow_0 (zAb kRow_1 (zAb kRow_2 (zAb kRow_3 (zAb kRow_4 (zAb kRow_5 (zAb kRow_6 (zAb kRow_7 (zAb kRow_8 (zAb kRow_9 (zAb kRow_10 (zAb kRow_11 (zAb kRow_12 (kRow_13)))))))))))))) 51 (by kernel_rfl) h
end Go.AM
namespace Go.AM
open Go.Proofs
def TreeAt (κ:Bool) (rows:List RowW) (own:Nat→Nat) (w:World) (tv:Value):Prop:=
 ∃ (H:Heap) (p:Img) (root:Value) (sg:Sigs),In H w∧(∀ b o,H b=some o→own b=0)∧tv=ptrV p∧zAi H p [root,.int .i64 (rows.length:Int)]∧zBf κ rows H root sg
theorem TreeAt.left {κ:Bool} {rows:List RowW} {own own':Nat→Nat} {tag:Nat} {w w':World} {tv:Value} (h:TreeAt κ rows own w tv) (htag:tag≠0) (hl:LeftO own tag w w') (ho:∀ b,b<w.heap.size→own' b=own b):TreeAt κ rows own' w' tv:=by
 obtain ⟨H,p,root,sg,h1,h2,h3⟩:=h
 have lt:∀ b o,H b=some o→b<w.heap.size:=fun b o hb=>@ZAq tok0 w b _ (h1 b o hb)
 exact ⟨H,p,root,sg,fun b o hb=>(hl.1 b (lt b o hb) (by rw[h2 b o hb]; exact htag.symm)).trans (h1 b o hb),fun b o hb=>(ho b (lt b o hb)).trans (h2 b o hb),h3⟩
theorem TreeAt.cell {κ:Bool} {rows:List RowW} {own:Nat→Nat} {w:World} {tv:Value} (h:TreeAt κ rows own w tv):tv.oneCell'=true:=by
 obtain ⟨H,p,root,sg,_,_,rfl,_⟩:=h
 rfl
theorem TreeAt.of {κ:Bool} {rows:List RowW} {own:Nat→Nat} {w w':World} {cv:Value} (h:IdxPostW κ w rows cv w'):∃ tv,cv=.tuple #[tv,.nilIface]∧TreeAt κ rows (extO own w 0) w' tv:=by
 obtain ⟨_,p,H,root,sg,h1,h2,h3,h4,h5,⟨c,el,fz,g1,g2,g3,g4⟩,h7⟩:=h
 have hH:∀ b o,(if b=p then w'.heap[p]? else H b)=some o→w'.heap[b]? = some o∧w.heap.size≤b:=fun b o hb=>by
  by_cases e:b=p
  · rw[if_pos e] at hb
    rw[e]
    exact ⟨hb,h2⟩
  · rw[if_neg e] at hb
    exact ⟨h3 b o hb,h5 b o hb⟩
 refine ⟨_,h1,fun b=>if b=p then w'.heap[p]? else H b,(p,0,2),root,sg,fun b o hb=>(hH b o hb).1,fun b o hb=>extO_ge (hH b o hb).2,rfl,⟨c,el,fz,(if_pos rfl).trans g1,?_,?_,?_⟩,?_⟩
 · rw[← Array.length_toList,g2]; rfl
 · rw[← Array.length_toList,g2]
   show 0+2≤2
   omega
 · show (c.toList.drop 0).take 2=_
   rw[List.drop_zero,g2]; rfl
 · have hm:∀ b o,H b=some o→(if b=p then w'.heap[p]? else H b)=some o:=fun b o hb=>by
    rw[if_neg (fun e=>by rw[e,h4] at hb; cases hb)]; exact hb
   exact ⟨h7.tree.mono hm,h7.inv,h7.len,fun e he=>⟨(h7.row e he).1.mono hm,(h7.row e he).2⟩,h7.all,fun e he=>by
    obtain ⟨s,q1,q2,q3⟩:=h7.vals e he
    exact ⟨s,q1,q2,q3.mono hm⟩⟩
theorem LeftO.then {own own':Nat→Nat} {tag:Nat} {w0 w w':World} (h:LeftO own tag w0 w) (he:∀ b,b<w0.heap.size→own' b=own b) (h':LeftO own' tag w w'):LeftO own tag w0 w':=
 ⟨fun b hb hne=>(h'.1 b (Nat.lt_of_lt_of_le hb h.2.1) (by rw[he b hb]; exact hne)).trans (h.1 b hb hne),Nat.le_trans h.2.1 h'.2.1,h'.2.2.1.trans h.2.2.1,h'.2.2.2.1.trans h.2.2.2.1,h'.2.2.2.2.trans h.2.2.2.2⟩
theorem LeftO.of {own:Nat→Nat} {tag:Nat} {w w':World} (h:ZAb w w'):LeftO own tag w w':=⟨fun b hb _=>h.1 b hb,h.2⟩
structure KqAt (rows:List RowW) (next:Nat) (hok:ZBp rows next) (own0:Nat→Nat) (tag:Nat) (x3:Img) (w0:World) (q:Nat) (a:Act) (w:World):Prop where
 act:zBc 124 a
 at_:∃ (φ:Phi) (own:Nat→Nat) (g:Nat→Value),LeftO own0 tag w0 w∧(∀ b,b<w0.heap.size→own b=own0 b)∧φ 3=some x3∧OwnAt φ (zAe 2 0 b00 (kqL rows.length q [])) own tag∧
  (∀ j,(g j).oneCell'=true)∧(∀ i,i<q→TreeAt (Nat.beq i 0) rows own w (g (i+1)))∧
  ∀ f hf,(∀ j,j≤q→f j=g j)→@Rel (tokX rows next hok f hf) TZ φ (zAe 2 0 b00 (kqL rows.length q [])) w∧@zAa (tokX rows next hok f hf) φ (kqVals rows.length q) (zCe kqTs a)
theorem kRow_at {m:Nat} (h:m≤50):kRow m=true:=kRow_all m (by omega)
theorem kqNs_3 (m:Mem) (t1 t3 t6 t8 k q:Nat):∃ l',kqNs m 3 t1 t3 t6 t8 k q=3::l':=⟨_,rfl⟩
theorem absPhi_3 {q m:Nat} {φ:Phi} {l:List Nat}:zAj (mapW q m (3::l)) φ 3=φ 3:=by
 unfold zAj
 rw[if_pos (by rw[zBd]; show 3<2+1+(3::l).length; rw[List.length_cons]; omega)]
 rfl
def KeptPost (rows:List RowW) (next:Nat) (hok:ZBp rows next) (own0:Nat→Nat) (tag:Nat) (x3:Img) (w0:World) (c:Value) (w:World):Prop:=
 ∃ (φ:Phi) (own:Nat→Nat) (g:Nat→Value),LeftO own0 tag w0 w∧(∀ b,b<w0.heap.size→own b=own0 b)∧φ 3=some x3∧OwnAt φ (zAe 2 0 b00 (swZ rows.length [])) own tag∧
  (∀ j,(g j).oneCell'=true)∧(∀ i,i<2→TreeAt (Nat.beq i 0) rows own w (g (i+1)))∧
  ∀ f hf,(∀ j,j≤2→f j=g j)→@Rel (tokX rows next hok f hf) TZ φ (zAe 2 0 b00 (swZ rows.length [])) w∧@VRel (tokX rows next hok f hf) φ (keptV rows.length) c
end Go.AM
namespace Go.AM
open Go.Proofs
def OGo (tag:Nat) (own:Nat→Nat) (w:World) (own':Nat→Nat) (w':World):Prop:=LeftO own tag w w'∧∀ b,b<w.heap.size→own' b=own b
theorem OGo.trans {tag:Nat} {own own1 own2:Nat→Nat} {w w1 w2:World} (h:OGo tag own w own1 w1) (h':OGo tag own1 w1 own2 w2):OGo tag own w own2 w2:=
 ⟨h.1.then h.2 h'.1,fun b hb=>(h'.2 b (Nat.lt_of_lt_of_le hb h.1.2.1)).trans (h.2 b hb)⟩
theorem OGo.size {tag:Nat} {own own':Nat→Nat} {w w':World} (h:OGo tag own w own' w'):w.heap.size≤w'.heap.size:=h.1.2.1
theorem TreeAt.go {κ:Bool} {rows:List RowW} {own own':Nat→Nat} {tag:Nat} {w w':World} {tv:Value} (htag:tag≠0) (h:TreeAt κ rows own w tv) (hg:OGo tag own w own' w'):TreeAt κ rows own' w' tv:=h.left htag hg.1 hg.2
theorem ZCw {T:Tok} {φ φ':Phi} {m m':Mem} {w w':World} {own:Nat→Nat} {tag:Nat} (hst:@Step T TZ φ m w φ' m' w') (h:OwnAt φ m own tag):OwnAt φ' m' (extO own w tag) tag∧OGo tag own w (extO own w tag) w':=
 ⟨(own_step hst h).1,(own_step hst h).2,fun _ hb=>extO_lt hb⟩
theorem rel_gs {T:Tok} {φ:Phi} {m:Mem} {w:World} (h:@Rel T TZ φ m w):2≤w.heap.size:=by
 obtain ⟨sz,hg⟩:=@Rel.glob T TZ _ _ _ h 1 (by rw[ZAa]; decide)
 exact @Rel.heap T TZ _ _ _ h 1 _ _ _ hg (by rw[ZAa]; decide)
theorem own_keep {T:Tok} {φ:Phi} {m:Mem} {w:World} {own own':Nat→Nat} {tag:Nat} (hr:@Rel T TZ φ m w) (h:OwnAt φ m own tag) (ho:∀ b,b<w.heap.size→own' b=own b):OwnAt φ m own' tag:=by
 have lt:∀ p b o s,(m.get p).live=true→φ p=some (b,o,s)→b<w.heap.size:=fun p b o s hl hφ=>
  @Rel.heap T TZ _ _ _ hr p b o s hφ (fun e=>by
   have:=@Rel.nohandle T TZ _ _ _ hr
   rw[e,this] at hl; cases hl)
 exact ⟨fun p b o s hp hlv hφ=>by rw[ho b (lt p b o s hlv hφ)]; exact h.live p b o s hp hlv hφ,fun p b o s hp hlv hφ=>by rw[ho b (lt p b o s (@Blk.live_of_wr tok0 _ hlv) hφ)]; exact h.wr p b o s hp hlv hφ⟩
theorem ids_ne {rows:List RowW} {next:Nat} (h:ZBp rows next):rows.Pairwise fun r s=>r.id≠s.id:=h.sorted.imp fun h=>by omega
def putF (g:Nat→Value) (k:Nat) (v:Value) (j:Nat):Value:=if j=k then v else g j
theorem putF_cell {g:Nat→Value} (hg:∀ j,(g j).oneCell'=true) {k:Nat} {v:Value} (hv:v.oneCell'=true) (j:Nat):(putF g k v j).oneCell'=true:=by
 unfold putF
 split
 · exact hv
 · exact hg j
theorem putF_old {g:Nat→Value} {k j:Nat} {v:Value} (h:j<k):putF g k v j=g j:=if_neg (by omega)
theorem putF_same {g:Nat→Value} {k:Nat} {v:Value}:putF g k v k=v:=if_pos rfl
theorem vsLen {T:Tok} {φ:Phi} {l:List AVal} {a:Act} {ts:List Nat} (h:@zAa T φ l (zCe ts a)):l.length=ts.length:=by
 have:=@zAa.length T φ _ _ h
 unfold zCe at this
 rw[List.length_map] at this
 omega
section
variable {rows:List RowW} {next:Nat} {hok:ZBp rows next} {own0:Nat→Nat} {tag:Nat} {x3:Img} {w0:World}
theorem kRowQat {m q:Nat} (h:m≤50) (hq:q<2):k1Run TZ K0 H23 C23 R23_21 ZBg m q=true∧k2Run TZ K0 ZBg S23_23 R23_25 R23_26 m q=true:=by
 have hrow:=kRow_at h
 unfold kRow at hrow
 simp only[Bool.and_eq_true] at hrow
 match q,hq with
 |0,_=>exact hrow.2.1
 |1,_=>exact hrow.2.2.1
theorem kRow0at {m:Nat} (h:m≤50):k0Run TZ K0 CS23 (sl S23_19) m=true:=by
 have hrow:=kRow_at h
 unfold kRow at hrow
 simp only[Bool.and_eq_true] at hrow
 exact hrow.1
theorem kRow3at {m:Nat} (h:m≤50):k3Run TZ K0 H23 C23 X23 res23 m=true:=by
 have hrow:=kRow_at h
 unfold kRow at hrow
 simp only[Bool.and_eq_true] at hrow
 exact hrow.2.2.2
attribute [local irreducible] ZBg BD23 LB23 H23 C23 R23_21 S23_23 R23_25 R23_26 X23 in
theorem kq_round (htag:tag≠0) (h00:own0 0=0) (hgs0:2≤w0.heap.size) {q:Nat} (hq:q<2) {a:Act} {w:World} (h:KqAt rows next hok own0 tag x3 w0 q a w) {Q:Exit→Act→World→Prop}
 (hgo:∀ a' w',KqAt rows next hok own0 tag x3 w0 (q+1) a' w'→Q .normal a' w'):LB23.wp TZ Q a w:=by
 obtain ⟨ha,φ,own,g,e1,e2,e3,e4,e5,e6,e7⟩:=h
 obtain ⟨r0,v0⟩:=e7 g e5 (fun _ _=>rfl)
 obtain ⟨hk1,hk2⟩:=kRowQat hok.len hq
 unfold k1Run at hk1
 split at hk1
 rotate_left
 · cases hk1
 rename_i v1 m1 hr1
 split at hk1
 rotate_left
 · cases hk1
 rename_i v2 m2 hr2
 split at hk1
 rotate_left
 · cases hk1
 rename_i v3 m3 hr3
 rw[Bool.and_eq_true] at hk1
 obtain ⟨hz,habs⟩:=hk1
 let T:Tok:=tokX rows next hok g e5
 rw[lb23_is]
 refine @ZCh TZ T K0 (@ZBt T) (@k0_draw T) 124 [H23,C23] g23_hc _ _ _ _ _ _ hr1 φ w a _ _ r0 ha (by decide) (ZAv (ts:=kqTs) rfl v0) (fun _ φ1 a1 w1 st1 ha1 hv1=>?_) (fun i h=>by cases h) (fun h=>by cases h)
 refine wp_seq (wp_block ?_)
 rw[bd23_is]
 have rl1:=@Step.rel T TZ _ _ _ _ _ _ st1
 refine @ZCh TZ T K0 (@ZBt T) (@k0_draw T) 124 [R23_21] g23_21 _ _ _ _ _ _ hr2 φ1 w1 a1 (.seq (.region 22 ZBg false) (.seq S23_23 R23_25)) _ rl1 ha1 (by decide) (ZAv rfl hv1) (fun _ φ2 a2 w2 st2 ha2 hv2=>?_) (fun i h=>by cases h) (fun h=>by cases h)
 have rl2:=@Step.rel T TZ _ _ _ _ _ _ st2
 refine wp_seq (wp_region ?_)
 rw[s23_22]
 have hrange:List.range 8=List.range' 0 (zBl 2 ZBg.toList).length++[2,3,4,5,6,7]:=by rw[l23_22a]; rfl
 rw[hrange]
 refine @ZCc TZ T K0 (@ZBt T) 124 ZBg _ 0 (zBl 2 ZBg.toList) [2,3,4,5,6,7] t23_22a g23_22a _ _ _ _ _ hr3 φ2 w2 a2 rl2 ha2 (by decide) (ZAv rfl hv2) (fun φ3 a3 w3 st3 ha3 hv3=>?_)
 have rl3:=@Step.rel T TZ _ _ _ _ _ _ st3
 obtain ⟨o1,g1⟩:=ZCw st1 e4
 obtain ⟨o2,g2⟩:=ZCw st2 o1
 obtain ⟨o3,g3⟩:=ZCw st3 o2
 have g03:=(g1.trans g2).trans g3
 have hs03:OGo tag own0 w0 own w:=⟨e1,e2⟩
 have h10:own 0=0:=(e2 0 (by omega)).trans h00
 have hgsw:2≤w.heap.size:=Nat.le_trans hgs0 e1.2.1
 generalize hown3:extO (extO (extO own w tag) w1 tag) w2 tag=own3 at o3 g03
 have h30:own3 0=0:=(g03.2 0 (by omega)).trans h10
 have hgs3:2≤w3.heap.size:=Nat.le_trans hgsw g03.size
 have hc:∀ f' hf',(∀ j,j≤q→f' j=g j)→@Rel (tokX rows next hok f' hf') TZ (zAj (mapW q rows.length (kqNs m3 3 15 14 13 12 rows.length q)) φ3) (zAe 2 0 b00 (kqL rows.length q [])) w3∧
  @zAa (tokX rows next hok f' hf') (zAj (mapW q rows.length (kqNs m3 3 15 14 13 12 rows.length q)) φ3) (keyQ q::slW 15 rows.length 2::kqVals rows.length q) (zCe (102::103::kqTs) a3):=fun f' hf' hff=>by
  obtain ⟨c1,c2⟩:=canonW (hok:=hok) (f:=g) (f':=f') (hf:=e5) (hf':=hf') (κ:=q) hff rl3 habs
  exact ⟨c1,zipW c2 hz (by rw[vsLen hv3]; rfl) hv3⟩
 have o3c:=own_abs rl3 o3 h30 rfl habs
 have h3c:zAj (mapW q rows.length (kqNs m3 3 15 14 13 12 rows.length q)) φ3 3=some x3:=by
  obtain ⟨l',hl'⟩:=kqNs_3 m3 15 14 13 12 rows.length q
  rw[hl',absPhi_3]
  exact @Step.ext T TZ _ _ _ _ _ _ st3 _ _ (@Step.ext T TZ _ _ _ _ _ _ st2 _ _ (@Step.ext T TZ _ _ _ _ _ _ st1 _ _ e3))
 generalize zAj (mapW q rows.length (kqNs m3 3 15 14 13 12 rows.length q)) φ3=φc at hc o3c h3c
 obtain ⟨c1,c2⟩:=hc g e5 (fun _ _=>rfl)
 obtain ⟨kk,b,cap,kb,kr⟩:KeyAtW (zAk w3) (Nat.beq q 0) (a3.tmps.getD 102 undef)∧∃ b cap,a3.tmps.getD 103 undef=.slice b rows.length cap∧RowsAtW (zAk w3) b rows:=by
  cases c2 with
  |cons p1 c2=>
  cases c2 with
  |cons p2 c2=>
  exact kq_at hq c1 p1 p2
 refine wpOps_call o23_22 (R':=IdxPostW (Nat.beq q 0) w3 rows) ?_ fun cv w4 hpost=>?_
 · show Ends TZ 53 #[a3.tmps.getD 102 undef,a3.tmps.getD 103 undef] w3 _
   rw[kb]
   exact indexedW_ok hgs3 hok.ok (ids_ne hok) hok.len kk kr
 have hleft:=hpost.1
 obtain ⟨tv,rfl,htree⟩:=TreeAt.of (own:=own3) hpost
 have g4:OGo tag own3 w3 (extO own3 w3 0) w4:=⟨LeftO.of hleft,fun _ hb=>extO_lt hb⟩
 have g04:=g03.trans g4
 have htv:=htree.cell
 let g':=putF g (q+1) tv
 have hg':∀ j,(g' j).oneCell'=true:=putF_cell e5 htv
 have hgg:∀ j,j≤q→g' j=g j:=fun j hj=>putF_old (by omega)
 let T':Tok:=tokX rows next hok g' hg'
 obtain ⟨d1,d2⟩:=hc g' hg' hgg
 have st4:@Step T' TZ φc _ w3 φc _ w4:=@Step.grow TZ T' _ _ _ _ d1 hleft.1 hleft.2.1 hleft.2.2.1 hleft.2.2.2.1 hleft.2.2.2.2
 have rl4:=@Step.rel T' TZ _ _ _ _ _ _ st4
 have o4:=own_keep d1 o3c g4.2
 have ha4:=zCu ha3 (some 104) (.tuple #[tv,.nilIface])
 have hv4:@zAa T' φc (.tuple [.opq (Nat.succ q),.niliface]::kqVals rows.length q) (zCe (104::kqTs) (a3.put (some 104) (.tuple #[tv,.nilIface]))):=by
  cases d2 with
  |cons p1 d2=>
  cases d2 with
  |cons p2 d2=>
  refine @vals_put T' φc 124 a3 ha3 kqTs _ d2 104 (by decide) rfl _ _ ?_
  refine @VRel.tuple T' φc _ _ (@zAa.cons T' φc _ _ _ _ ?_ (@zAa.cons T' φc _ _ _ _ (@VRel.niliface T' φc) (@zAa.nil T' φc)))
  have hval:@Tok.val T' (Nat.succ q)=tv:=by
   show valF g' rows (q+1)=tv
   rw[zCx (by omega)]
   exact putF_same
  rw[← hval]
  exact @VRel.opq T' φc (Nat.succ q)
 generalize a3.put (some 104) (.tuple #[tv,.nilIface])=a4 at ha4 hv4
 unfold k2Run at hk2
 split at hk2
 rotate_left
 · cases hk2
 rename_i v5 m5 hr5
 split at hk2
 rotate_left
 · cases hk2
 rename_i v6 m6 hr6
 split at hk2
 rotate_left
 · cases hk2
 rename_i v7 m7 hr7
 split at hk2
 rotate_left
 · cases hk2
 rename_i v8 m8 hr8
 unfold k2End at hk2
 rw[Bool.and_eq_true] at hk2
 obtain ⟨hz2,habs2⟩:=hk2
 have hrange2:[3,4,5,6,7]=List.range' 3 (ZAe 3 ZBg.toList).length++[]:=by rw[l23_22b]; rfl
 rw[hrange2]
 refine @ZCc TZ T' K0 (@ZBt T') 124 ZBg _ 3 (ZAe 3 ZBg.toList) [] t23_22b g23_22b _ _ _ _ _ hr5 φc w4 a4 rl4 ha4 (by decide) (ZAv (ts:=104::kqTs) rfl hv4) (fun φ5 a5 w5 st5 ha5 hv5=>?_)
 have rl5:=@Step.rel T' TZ _ _ _ _ _ _ st5
 unfold wpOps
 show Code.wp TZ (seqsC [S23_23] R23_25) _ a5 w5
 refine @ZCh TZ T' K0 (@ZBt T') (@k0_draw T') 124 [S23_23] g23_23 _ _ _ _ _ _ hr6 φ5 w5 a5 R23_25 _ rl5 ha5 (by decide) (ZAv rfl hv5) (fun _ φ6 a6 w6 st6 ha6 hv6=>?_) (fun i h=>by cases h) (fun h=>by cases h)
 have rl6:=@Step.rel T' TZ _ _ _ _ _ _ st6
 refine @one_ok TZ T' K0 (@ZBt T') (@k0_draw T') 124 R23_25 g23_25 _ _ _ _ _ _ hr7 φ6 w6 a6 _ rl6 ha6 (by decide) (ZAv rfl hv6) (fun _ φ7 a7 w7 st7 ha7 hv7=>?_) (fun i h=>by cases h) (fun h=>by cases h)
 have rl7:=@Step.rel T' TZ _ _ _ _ _ _ st7
 show Code.wp TZ R23_26 Q a7 w7
 refine @one_ok TZ T' K0 (@ZBt T') (@k0_draw T') 124 R23_26 g23_26 _ _ _ _ _ _ hr8 φ7 w7 a7 _ rl7 ha7 (by decide) (ZAv rfl hv7) (fun _ φ8 a8 w8 st8 ha8 hv8=>?_) (fun i h=>by cases h) (fun h=>by cases h)
 have rl8:=@Step.rel T' TZ _ _ _ _ _ _ st8
 obtain ⟨o5,g5⟩:=ZCw st5 o4
 obtain ⟨o6,g6⟩:=ZCw st6 o5
 obtain ⟨o7,g7⟩:=ZCw st7 o6
 obtain ⟨o8,g8⟩:=ZCw st8 o7
 have g48:=((g5.trans g6).trans g7).trans g8
 have g08:=g04.trans g48
 have hall:=hs03.trans g08
 refine hgo a8 w8 ⟨ha8,zAj (mapW (Nat.succ q) rows.length (kqNs m8 3 15 14 13 12 rows.length (Nat.succ q))) φ8,_,g',hall.1,hall.2,?_,own_abs rl8 o8 ((hall.2 0 (by omega)).trans h00) rfl habs2,hg',?_,?_⟩
 · obtain ⟨l',hl'⟩:=kqNs_3 m8 15 14 13 12 rows.length (Nat.succ q)
   rw[hl',absPhi_3]
   exact @Step.ext T' TZ _ _ _ _ _ _ st8 _ _ (@Step.ext T' TZ _ _ _ _ _ _ st7 _ _ (@Step.ext T' TZ _ _ _ _ _ _ st6 _ _ (@Step.ext T' TZ _ _ _ _ _ _ st5 _ _ h3c)))
 · intro i hi
   by_cases hiq:i=q
   · subst hiq
     have e:g' (i+1)=tv:=putF_same
     rw[e]
     exact htree.go htag g48
   · have e:g' (i+1)=g (i+1):=putF_old (by omega)
     rw[e]
     exact (e6 i (by omega)).go htag g08
 · intro f' hf' hff
   obtain ⟨c1,c2⟩:=canonW (hok:=hok) (f:=g') (f':=f') (hf:=hg') (hf':=hf') (κ:=Nat.succ q) hff rl8 habs2
   exact ⟨c1,zipW c2 hz2 (by rw[vsLen hv8]; rfl) hv8⟩
theorem args_three {fn:Func} {x y z:Value}:((#[x,y,z]:Array Value)++Array.replicate (fn.ntmps-(#[x,y,z]:Array Value).size) undef).getD 0 undef=x∧((#[x,y,z]:Array Value)++Array.replicate (fn.ntmps-(#[x,y,z]:Array Value).size) undef).getD 1 undef=y∧((#[x,y,z]:Array Value)++Array.replicate (fn.ntmps-(#[x,y,z]:Array Value).size) undef).getD 2 undef=z:=by
 refine ⟨?_,?_,?_⟩<;>(rw[Array.getD_eq_getD_getElem?,Array.getElem?_append_left (by simp)]; rfl)
attribute [local irreducible] ZBg BD23 LB23 H23 C23 R23_21 S23_23 R23_25 R23_26 X23 S23_19 in
theorem kept_ok (htag:tag≠0) (h00:own0 0=0) {f:Nat→Value} {hf:∀ j,(f j).oneCell'=true} {φ:Phi} (hr:@Rel (tokX rows next hok f hf) TZ φ (zAe 2 0 b00 (swR rows.length)) w0) (hO:OwnAt φ (zAe 2 0 b00 (swR rows.length)) own0 tag) (h3:φ 3=some x3)
 {x rv nv:Value} (hx:@VRel (tokX rows next hok f hf) φ (.agg shapeA) x) (hrv:@VRel (tokX rows next hok f hf) φ (slW 12 rows.length 2) rv) (hnv:@VRel (tokX rows next hok f hf) φ (.nx .u64 0) nv) :
 Ends TZ 23 #[x,rv,nv] w0 (KeptPost rows next hok own0 tag x3 w0):=by
 right
 refine ⟨ZBx fn23_is fn23_name fn23_body,?_⟩
 refine calls_of_wp fn23_is fn23_body ?_
 have ha0:zBc 124 { tmps:=(#[x,rv,nv]:Array Value)++Array.replicate (fn23.ntmps-(#[x,rv,nv]:Array Value).size) undef,defers:=[] }:=⟨by simp[fn23_nt],rfl⟩
 obtain ⟨g0,g1,g2⟩:=@args_three fn23 x rv nv
 have g0':({ tmps:=(#[x,rv,nv]:Array Value)++Array.replicate (fn23.ntmps-(#[x,rv,nv]:Array Value).size) undef,defers:=[] }:Act).tmps.getD 0 undef=x:=g0
 have g1':({ tmps:=(#[x,rv,nv]:Array Value)++Array.replicate (fn23.ntmps-(#[x,rv,nv]:Array Value).size) undef,defers:=[] }:Act).tmps.getD 1 undef=rv:=g1
 have g2':({ tmps:=(#[x,rv,nv]:Array Value)++Array.replicate (fn23.ntmps-(#[x,rv,nv]:Array Value).size) undef,defers:=[] }:Act).tmps.getD 2 undef=nv:=g2
 generalize ({ tmps:=(#[x,rv,nv]:Array Value)++Array.replicate (fn23.ntmps-(#[x,rv,nv]:Array Value).size) undef,defers:=[] }:Act)=a0 at ha0 g0' g1' g2'
 let T:Tok:=tokX rows next hok f hf
 have hrun:=kRow0at hok.len
 unfold k0Run at hrun
 split at hrun
 rotate_left
 · cases hrun
 rename_i v1 m1 hr1
 split at hrun
 rotate_left
 · cases hrun
 rename_i v2 m2 hr2
 unfold k0End at hrun
 split at hrun
 rotate_left
 · cases hrun
 rename_i x1 x3' x6 x8 y1 y2 y3
 rw[Bool.and_eq_true] at hrun
 obtain ⟨hz,habs⟩:=hrun
 have hgs0:=rel_gs hr
 rw[b23_is]
 refine @ZCh TZ T K0 (@ZBt T) (@k0_draw T) 124 CS23 g23 _ _ _ _ _ _ hr1 φ w0 a0 _ _ hr ha0 (by decide) (fun q hq=>?_) (fun _ φ1 a1 w1 st1 ha1 hv1=>?_) (fun i h=>by cases h) (fun h=>by cases h)
 · simp only[k0Regs,List.mem_cons,List.not_mem_nil,or_false] at hq
   rcases hq with rfl|rfl|rfl
   · exact ⟨(by decide:0<4096),by show @VRel T φ _ (a0.tmps.getD 0 undef); rw[g0']; exact hx⟩
   · exact ⟨(by decide:1<4096),by show @VRel T φ _ (a0.tmps.getD 1 undef); rw[g1']; exact hrv⟩
   · exact ⟨(by decide:2<4096),by show @VRel T φ _ (a0.tmps.getD 2 undef); rw[g2']; exact hnv⟩
 have rl1:=@Step.rel T TZ _ _ _ _ _ _ st1
 refine wp_seq ?_
 show Code.wp TZ (seqsC [sl S23_19] (.block 4 (.loop LB23))) _ a1 w1
 refine @ZCh TZ T K0 (@ZBt T) (@k0_draw T) 124 [sl S23_19] g23_19 _ _ _ _ _ _ hr2 φ1 w1 a1 (.block 4 (.loop LB23)) _ rl1 ha1 (by decide) (ZAv rfl hv1) (fun _ φ2 a2 w2 st2 ha2 hv2=>?_) (fun i h=>by cases h) (fun h=>by cases h)
 have rl2:=@Step.rel T TZ _ _ _ _ _ _ st2
 obtain ⟨o1,q1⟩:=ZCw st1 hO
 obtain ⟨o2,q2⟩:=ZCw st2 o1
 have q02:=q1.trans q2
 have hstart:KqAt rows next hok own0 tag x3 w0 0 a2 w2:=by
  refine ⟨ha2,zAj (mapW 0 rows.length (kqNs m2 3 (nmOf x1) (nmOf x3') (nmOf x6) (nmOf x8) rows.length 0)) φ2,_,f,q02.1,q02.2,?_,own_abs rl2 o2 ((q02.2 0 (by omega)).trans h00) rfl habs,hf,fun i hi=>by omega,fun f' hf' hff=>?_⟩
  · obtain ⟨l',hl'⟩:=kqNs_3 m2 (nmOf x1) (nmOf x3') (nmOf x6) (nmOf x8) rows.length 0
    rw[hl',absPhi_3]
    exact @Step.ext T TZ _ _ _ _ _ _ st2 _ _ (@Step.ext T TZ _ _ _ _ _ _ st1 _ _ h3)
  · obtain ⟨c1,c2⟩:=canonW (hok:=hok) (f:=f) (f':=f') (hf:=hf) (hf':=hf') (κ:=0) hff rl2 habs
    exact ⟨c1,zipW c2 hz (by rw[vsLen hv2]; rfl) hv2⟩
 refine wp_block ?_
 refine wp_loop_ghost (fun k a w=>k≤2∧KqAt rows next hok own0 tag x3 w0 (2-k) a w) 2 ⟨Nat.le_refl _,by rw[Nat.sub_self]; exact hstart⟩ ?_
 rintro k a7 w7 ⟨hk,h7⟩
 by_cases hk0:k=0
 rotate_left
 · refine kq_round htag h00 hgs0 (by omega) h7 fun a' w' h8=>?_
   refine ⟨k-1,by omega,by omega,?_⟩
   have:2-(k-1)=2-k+1:=by omega
   rw[this]; exact h8
 subst hk0
 have h7':KqAt rows next hok own0 tag x3 w0 2 a7 w7:=h7
 clear h7
 obtain ⟨ha7,φ7,own7,g,e1,e2,e3,e4,e5,e6,e7⟩:=h7'
 obtain ⟨r7,v7⟩:=e7 g e5 (fun _ _=>rfl)
 have hk3:=kRow3at hok.len
 unfold k3Run at hk3
 split at hk3
 rotate_left
 · cases hk3
 rename_i v8 m8 hr8
 split at hk3
 rotate_left
 · cases hk3
 rename_i v9 m9 hr9
 rw[Bool.and_eq_true] at hk3
 obtain ⟨hz9,habs9⟩:=hk3
 let Tg:Tok:=tokX rows next hok g e5
 rw[lb23_is]
 refine @ZCh TZ Tg K0 (@ZBt Tg) (@k0_draw Tg) 124 [H23,C23] g23_hc _ _ _ _ _ _ hr8 φ7 w7 a7 _ _ r7 ha7 (by decide) (ZAv (ts:=kqTs) rfl v7) (fun h=>by cases h) (fun i hi φ8 a8 w8 st8 ha8 hv8=>?_) (fun h=>by cases h)
 have hi4:i=4:=by
  have:Nat.beq i 4=true:=hi
  exact beq_true.1 this
 subst hi4
 have rl8:=@Step.rel Tg TZ _ _ _ _ _ _ st8
 refine then_exit ?_
 show Code.wp TZ X23 _ a8 w8
 refine @ret_ok Tg K0 (@ZBt Tg) (@k0_draw Tg) 124 X23 g23_x fn23 res23 fn23_res _ _ _ _ hr9 φ8 w8 a8 _ rl8 ha8 (by decide) (ZAv rfl hv8) (fun φ9 a9 w9 c st9 hd9 hres9 hv9=>?_)
 have rl9:=@Step.rel Tg TZ _ _ _ _ _ _ st9
 obtain ⟨o8,q8⟩:=ZCw st8 e4
 obtain ⟨o9,q9⟩:=ZCw st9 o8
 have q79:=q8.trans q9
 have qall:OGo tag own0 w0 _ w9:=OGo.trans ⟨e1,e2⟩ q79
 refine ⟨hd9,c,hres9,c,rfl,zAj (mapW 2 rows.length (kzNs rows.length)) φ9,_,g,qall.1,qall.2,?_,own_abs rl9 o9 ((qall.2 0 (by omega)).trans h00) rfl habs9,e5,fun i hi=>(e6 i hi).go htag q79,fun f' hf' hff=>?_⟩
 · rw[show kzNs rows.length=3::_ from rfl,absPhi_3]
   exact @Step.ext Tg TZ _ _ _ _ _ _ st9 _ _ (@Step.ext Tg TZ _ _ _ _ _ _ st8 _ _ e3)
 · obtain ⟨c1,c2⟩:=canonW (hok:=hok) (f:=g) (f':=f') (hf:=e5) (hf':=hf') (κ:=2) hff rl9 habs9
   exact ⟨c1,c2 _ _ hz9 _ hv9⟩
end
end Go.AM
namespace Go.AM
open Go.Proofs
def mAtW (n:Nat):Nat:=zAc 12 (Nat.add 13 n) (Nat.beq n 0)
def wRun (P:Program) (K:KH) (cs:List Code) (O28:Array Oper) (l:List (Nat×AVal)) (m:Mem):R:=
 match zBv P 125 K cs ⟨true,fun _=>false,false⟩ l [0,1,16,21] m with
 | .ok (.tuple v1) m1=>zCg P 125 K O28 (zBl 10 O28.toList) (List.zip [0,1,16,21] v1) [109,110,111,0,1] m1
 | .ok _ _=>.fail 200
 | .fail c=>.fail c
def newW (n:Nat):List Blk:=[.cells true [.int .i64 2,.opq 500,.str [],.int .i64 2,.opq 501,.str []],.cells true [.slice (mAtW n) 0 2 2 true 3]]
def wiRegs (n:Nat):List (Nat×AVal):=[(0,.ptr 3 0),(1,.int .i64 (.ofNat 0)),(2,.nilslice),(3,.nilslice),(4,.slice (Nat.succ (mAtW n)) 0 1 1 true 1)]
def wiMap (n:Nat) (ns:List Nat):Map:=⟨2,ns,appV (symsW n 0) [.nx .u64 0],fun d=>.nx .u64 (Nat.succ d),fun i=>zAc (.opq i) (zAc (.opq (Nat.sub i (Nat.add 500 (Nat.mul 2 n)))) .bad (and (Nat.ble (Nat.add 1000 (Nat.mul 2 n)) i) (Nat.ble i (Nat.add 1001 (Nat.mul 2 n))))) (and (Nat.ble 1000 i) (Nat.ble (Nat.succ i) (Nat.add 1000 (Nat.mul 2 n))))⟩
def rkNs (m:Mem) (rb n:Nat):List Nat:=3::4::5::6::7::8::9::10::11::rowNs m rb n []
def askW (m:Nat):List AVal:=[.agg shapeA,slW 12 m 2,.nx .u64 0,.ptr 3 0,.int .i64 (.ofNat 0)]
def wiEnd (n:Nat) (vs:List AVal) (mf:Mem):Bool:=
 match vs with
 | [_,r,_,_,_]=>and (zipB (absN (wiMap n (rkNs mf (nmOf r) (Nat.succ n))) 4) (askW (Nat.succ n)) vs) (zAp (wiMap n (rkNs mf (nmOf r) (Nat.succ n))) 0 b00 (swR (Nat.succ n)) mf)
 |_=>false
def wiRun (P:Program) (K:KH) (cs:List Code) (O28:Array Oper) (n:Nat):Bool:=
 match wRun P K cs O28 (wiRegs n) (zAe 2 0 b00 (swL n (newW n))) with
 | .ok (.tuple vs) mf=>wiEnd n vs mf
 |_=>false
def goneW (p:Nat):List Blk:=[.cells true [.sym .u64 p]]
def wdRegs (n:Nat):List (Nat×AVal):=[(0,.ptr 3 0),(1,.int .i64 (.ofNat 0)),(2,.nilslice),(3,.slice (mAtW n) 0 1 1 true 1),(4,.nilslice)]
def upW1 (p j:Nat):Nat:=zAc j (Nat.succ j) (Nat.ble (Nat.succ j) p)
def symsD (p:Nat):Nat→Nat→List AVal
 |0,_=>[]
 |n+1,j=>.sym .u64 (upW1 p j)::symsD p n (Nat.succ j)
def wdMap (k p:Nat) (ns:List Nat):Map:=⟨2,ns,symsD p k 0,fun d=>.nx .u64 d,fun i=>zAc (zAc (.opq i) (.opq (Nat.add 2 i)) (Nat.ble (Nat.succ i) (Nat.add 1000 (Nat.mul 2 p)))) .bad (Nat.ble 1000 i)⟩
def wdEnd (k p:Nat) (vs:List AVal) (mf:Mem):Bool:=
 match vs with
 | [_,r,_,_,_]=>and (zipB (absN (wdMap k p (rkNs mf (nmOf r) k)) 4) (askW k) vs) (zAp (wdMap k p (rkNs mf (nmOf r) k)) 0 b00 (swR k) mf)
 |_=>false
def wdRun (P:Program) (K:KH) (cs:List Code) (O28:Array Oper) (k p:Nat):Bool:=
 match wRun P K cs O28 (wdRegs (Nat.succ k)) (zAe 2 0 b00 (swL (Nat.succ k) (goneW p))) with
 | .ok (.tuple vs) mf=>wdEnd k p vs mf
 |_=>false
def swNs9 (n:Nat):List Nat:=3::4::5::6::7::8::9::10::11::(match n with
 |0=>[]
 |k+1=>natL (Nat.succ (Nat.succ k)) 12)
def weRun (P:Program) (K:KH) (O28:Array Oper) (X:Code) (res:List ResultVar) (n:Nat):Bool:=
 match zCg P 125 K O28 (ZAe 11 O28.toList) [(0,.ptr 3 0),(1,.int .i64 (.ofNat 0)),(112,keptV n)] [0,1,24,25] (zAe 2 0 b00 (swZ n [])) with
 | .ok (.tuple v1) m1=>(match retRun P 125 K X res (List.zip [0,1,24,25] v1) m1 with
  | .ok v mf=>and (aeqN 2 v .niliface) (zAp (mapW 2 n (swNs9 n)) 0 b00 (swL n []) mf)
  |_=>false)
 |_=>false
def entP (A p:Nat):List Nat→List MEnt
 | []=>[]
 |j::l=>⟨.sym .u64 (upW1 p j),.slice (Nat.add A j) 0 2 2 false 3,j⟩::entP A p l
def idP (p:Nat):List Nat→List AVal
 | []=>[]
 |j::l=>.sym .u64 (upW1 p j)::idP p l
def tailP (p n:Nat) (l:List Blk):List Blk:=
 match n with
 |0=>l
 |k+1=>.cells true (idP p (natL (Nat.succ k) 0))::ZCa (valsWL (natL (Nat.succ k) 0)) l
def swP (n p:Nat) (l:List Blk):List Blk:=swG (keepK (.map 8) (slW 12 n 1) (.nx .u64 0) (.slice 9 0 2 2 false 1)) (.map (entP 13 p (natL n 0)) n) treesK (tailP p n l)
def holeS (p:Nat):Nat→Nat→List AVal
 |0,_=>[]
 |n+1,j=>zAc (.sym .u64 j) (zAc (.sym .u64 1000) (.sym .u64 (Nat.sub j 1)) (Nat.beq j p)) (Nat.ble (Nat.succ j) p)::holeS p n (Nat.succ j)
def toP (n p:Nat):Map:=⟨2,swNs9 n,holeS p (Nat.succ n) 0,fun d=>.nx .u64 d,fun i=>zAc (.opq i) .bad (or (Nat.ble i 2) (Nat.ble 1000 i))⟩
def toPRun (n p:Nat):Bool:=zAp (toP n p) 0 b00 (swP n p []) (zAe 2 0 b00 (swL n []))
def ofP (n p:Nat) (ns:List Nat):Map:=⟨2,ns,symsD p n 0,fun d=>.nx .u64 d,fun i=>zAc (.opq i) .bad (or (Nat.ble i 2) (Nat.ble 1000 i))⟩
def errP:List Blk:=[.cells true [.str [114,111,119],.iface 101 (.int .i64 40)]]
def wxRun (P:Program) (K:KH) (B:Code) (res:List ResultVar) (n p:Nat):Bool:=
 match retRun P 125 K B res (wdRegs n) (zAe 2 0 b00 (swP n p (goneW p))) with
 | .ok (.iface 118 (.ptr q 0)) mf=>and (zAp (ofP n p (swNs9 n)) 0 b00 (swL n []) mf) (zAp ⟨2,[q],[],fun _=>.bad,fun _=>.bad⟩ 0 b00 errP mf)
 |_=>false
end Go.AM
namespace Go.AM
open Go.Proofs
def BW:Code:=bodyOf TZ 10
def CSW:List Code:=[sl BW,sl (sr BW),sl (sr (sr BW)),sl (sr (sr (sr BW))),sl (sr (sr (sr (sr BW)))),sl (sr (sr (sr (sr (sr BW))))),sl (sr (sr (sr (sr (sr (sr BW)))))),sl (sr (sr (sr (sr (sr (sr (sr BW))))))),sl (sr (sr (sr (sr (sr (sr (sr (sr BW))))))))]
def RW28:Code:=sr (sr (sr (sr (sr (sr (sr (sr (sr BW))))))))
def OW28:Array Oper:=opsOf (sl RW28)
def XW10:Code:=sr RW28
def resW:List ResultVar:=match TZ.funcs[10]? with
 |some fn=>fn.results.toList
 |none=>[]
def wiRow (n:Nat):Bool:=and (wiRun TZ K0 CSW OW28 n) (weRun TZ K0 OW28 XW10 resW (Nat.succ n))
def weRow (n:Nat):Bool:=weRun TZ K0 OW28 XW10 resW n
def wdAt (k p:Nat):Bool:=wdRun TZ K0 CSW OW28 k p
def wdC (k c:Nat):Bool:=allLt (fun j=>or (Nat.ble (Nat.succ k) (Nat.add (Nat.mul 8 c) j)) (wdAt k (Nat.add (Nat.mul 8 c) j))) 8
def wxAt (n p:Nat):Bool:=and (toPRun n p) (wxRun TZ K0 BW resW n p)
def wxC (k c:Nat):Bool:=allLt (fun j=>or (Nat.ble (Nat.succ (Nat.succ k)) (Nat.add (Nat.mul 8 c) j)) (wxAt k (Nat.add (Nat.mul 8 c) j))) 8
end Go.AM
namespace Go.AM
open Go.Proofs
theorem str0X {T:Tok} {φ:Phi}:@VRel T φ (.str []) (.string ByteArray.empty):=@VRel.str T φ [] ByteArray.empty rfl
theorem ZAr {T:Tok} {φ:Phi} {a:Act} {ts:List Nat} {vs:List AVal} (h:@zAa T φ vs (zCe ts a)) {i t:Nat} {v:AVal} (h1:vs[i]? = some v) (h2:ts[i]? = some t):@VRel T φ v (a.tmps.getD t undef):=by
 obtain ⟨c,g1,g2⟩:=@zAa.get T φ _ _ h i v h1
 unfold zCe at g1
 rw[List.getElem?_map,h2] at g1
 cases g1
 exact g2
theorem absT {T T':Tok} {σ:Map} (hG:σ.G=2) {φ:Phi} {m:Mem} {w:World} {L:List Blk} (hr:@Rel T TZ φ m w) (habs:zAp σ 0 b00 L m=true)
 (hS:∀ j,j<σ.ts.length→j<T'.cnt∧((∃ i,σ.tok j=.sym .u64 i∧(i<T.cnt→T'.num j=T.num i))∨(σ.tok j=.nx .u64 0∧T'.num j=T.base)))
 (hN:∃ e:Nat,(∀ d,σ.nx d=.nx .u64 (d+e))∧T'.base=T.base+e∧@Tok.nxok T') (hO:∀ i,σ.op i=.bad∨∃ s,σ.op i=.opq s∧T'.val i=T.val s) (hH:∀ b,T'.hold b=none) (hM:T'.strong=false) :
 @Rel T' TZ (zAj σ φ) (zAe 2 0 b00 L) w∧∀ t s,absN σ 4 t s=true→∀ c,@VRel T φ s c→@VRel T' (zAj σ φ) t c:=by
 have:=absorb (T:=T) (T':=T') (σ:=σ) (by rw[hG]; exact ZAa.symm) hr habs (fun k j c hj hc=>?_) (fun k d s c hs hc=>?_) (fun i s c hs hc=>?_) (fun b o h=>by rw[hH b] at h; cases h) (fun h=>by rw[hM] at h; cases h)
 · rw[hG] at this; exact this
 · obtain ⟨h1,h2⟩:=hS j hj
   rcases h2 with ⟨i,h2,h3⟩|⟨h2,h3⟩
   · rw[h2] at hc
     have hc':@VRel T φ (.sym k i) c:=hc
     cases hc' with
     |sym _ _ h=>
      rw[← h3 h]
      exact @VRel.sym T' _ k j h1
   · rw[h2] at hc
     have hc':@VRel T φ (.nx k 0) c:=hc
     cases hc' with
     |nx _ _ h hn=>
      have e:T.base+((0:Nat):Int)=T'.num j:=by rw[h3]; simp
      rw[e]
      exact @VRel.sym T' _ k j h1
 · obtain ⟨e,h1,h2,h3⟩:=hN
   rw[h1] at hs
   have e1:=@ZAf tok0 2 _ _ hs
   subst e1
   have hc':@VRel T φ (.nx k (d+e)) c:=hc
   cases hc' with
   |nx _ _ h hn=>
    have e2:T.base+((d+e:Nat):Int)=T'.base+(d:Int):=by rw[h2]; omega
    rw[e2]
    exact @VRel.nx T' _ k d (by omega) h3
 · rcases hO i with h1|⟨s',h1,h2⟩
   · rw[h1] at hs
     exact (aeq_bad hs).elim
   · rw[h1] at hs
     have e1:=@ZAf tok0 2 _ _ hs
     subst e1
     rw[ZAw hc,← h2]
     exact @VRel.opq T' _ i
theorem numsW_len:∀ rows:List RowW,(numsW rows).length=2*rows.length
 | []=>rfl
 |r::l=>by
  show (numsW l).length+1+1=_
  rw[numsW_len l,List.length_cons]; omega
theorem valF_out {f:Nat→Value} {rows:List RowW} {i:Nat} (h:1000+2*rows.length≤i):valF f rows i=nilS:=by
 unfold valF
 rw[if_neg (by omega),List.getElem?_eq_none (by rw[numsW_len]; omega)]; rfl
theorem valF_eq {f f':Nat→Value} {rows rows':List RowW} {j k:Nat} {r:RowW} (h:rows[j]? = some r) (h':rows'[k]? = some r):valF f rows (1000+2*j)=valF f' rows' (1000+2*k)∧valF f rows (1001+2*j)=valF f' rows' (1001+2*k):=by
 rw[(valF_row h).1,(valF_row h).2,(valF_row h').1,(valF_row h').2]
 exact ⟨rfl,rfl⟩
theorem even_odd {i:Nat} (h:1000≤i):∃ j,i=1000+2*j∨i=1001+2*j:=⟨(i-1000) / 2,by omega⟩
theorem wi_abs {rows:List RowW} {next:Nat} {hok:ZBp rows next} {r:RowW} (hid:r.id=next) {hok':ZBp (rows++[r]) (next+1)} {f f':Nat→Value} {hf:∀ j,(f j).oneCell'=true} {hf':∀ j,(f' j).oneCell'=true} (h5:f 500=.int .i64 (numZ r.a)) (h6:f 501=.int .i64 (numZ (128+r.b)))
 {φ:Phi} {m:Mem} {w:World} {L:List Blk} {ns:List Nat} (hr:@Rel (tokX rows next hok f hf) TZ φ m w) (habs:zAp (wiMap rows.length ns) 0 b00 L m=true) :
 @Rel (tokX (rows++[r]) (next+1) hok' f' hf') TZ (zAj (wiMap rows.length ns) φ) (zAe 2 0 b00 L) w∧∀ t s,absN (wiMap rows.length ns) 4 t s=true→∀ c,@VRel (tokX rows next hok f hf) φ s c→@VRel (tokX (rows++[r]) (next+1) hok' f' hf') (zAj (wiMap rows.length ns) φ) t c:=by
 have hlen:(rows++[r]).length=rows.length+1:=by simp
 have hlast:(rows++[r])[rows.length]? = some r:=by simp
 refine absT (T:=tokX rows next hok f hf) (T':=tokX (rows++[r]) (next+1) hok' f' hf') rfl hr habs (fun j hj=>?_) ⟨1,fun d=>rfl,?_,tokX_nx⟩ (fun i=>?_) (fun _=>rfl) rfl
 · have hts:(wiMap rows.length ns).ts=symsW rows.length 0++[.nx .u64 0]:=appV_eq _ _
   rw[hts,List.length_append,symsW_len] at hj
   have hj':j<rows.length+1:=hj
   refine ⟨by show j<(rows++[r]).length; rw[hlen]; exact hj',?_⟩
   rw[tok_eq,hts]
   rcases Nat.lt_or_ge j rows.length with h|h
   · refine .inl ⟨j,?_,fun _=>?_⟩
     · rw[List.getElem?_append_left (by rw[symsW_len]; exact h),symsW_get h,Nat.zero_add]; rfl
     · show (idAt (rows++[r]) j:Int)=(idAt rows j:Int)
       unfold idAt
       rw[List.getElem?_append_left h]
   · have e:j=rows.length:=by omega
     subst e
     refine .inr ⟨?_,?_⟩
     · rw[List.getElem?_append_right (by rw[symsW_len]; exact Nat.le_refl _),symsW_len,Nat.sub_self]; rfl
     · show (idAt (rows++[r]) rows.length:Int)=(next:Int)
       rw[idAt_of hlast,hid]
 · show ((next+1:Nat):Int)=(next:Int)+1
   omega
 · show (zAc (.opq i) (zAc (.opq (Nat.sub i (Nat.add 500 (Nat.mul 2 rows.length)))) .bad (and (Nat.ble (Nat.add 1000 (Nat.mul 2 rows.length)) i) (Nat.ble i (Nat.add 1001 (Nat.mul 2 rows.length))))) (and (Nat.ble 1000 i) (Nat.ble (Nat.succ i) (Nat.add 1000 (Nat.mul 2 rows.length)))):AVal)=.bad∨∃ s,(zAc (.opq i) (zAc (.opq (Nat.sub i (Nat.add 500 (Nat.mul 2 rows.length)))) .bad (and (Nat.ble (Nat.add 1000 (Nat.mul 2 rows.length)) i) (Nat.ble i (Nat.add 1001 (Nat.mul 2 rows.length))))) (and (Nat.ble 1000 i) (Nat.ble (Nat.succ i) (Nat.add 1000 (Nat.mul 2 rows.length)))):AVal)=.opq s∧valF f' (rows++[r]) i=valF f rows s
   simp only[zAn,Bool.and_eq_true,zAd]
   split
   · rename_i h
     have h2:i+1≤1000+2*rows.length:=h.2
     refine .inr ⟨i,rfl,?_⟩
     obtain ⟨j,hj⟩:=even_odd h.1
     have hjl:j<rows.length:=by omega
     have e1:=List.getElem?_eq_getElem hjl
     have e2:(rows++[r])[j]? = some rows[j]:=by rw[List.getElem?_append_left hjl]; exact e1
     rcases hj with rfl|rfl
     · exact (valF_eq e2 e1).1
     · exact (valF_eq e2 e1).2
   · split
     · rename_i h1 h
       have h2:1000+2*rows.length≤i:=h.1
       have h3:i≤1001+2*rows.length:=h.2
       refine .inr ⟨_,rfl,?_⟩
       rcases Nat.lt_or_ge i (1001+2*rows.length) with h4|h4
       · have e:i=1000+2*rows.length:=by omega
         subst e
         rw[(valF_row hlast).1,show Nat.sub (1000+2*rows.length) (Nat.add 500 (Nat.mul 2 rows.length))=500 by show (1000+2*rows.length)-(500+2*rows.length)=500; omega,zCx (by omega),h5]
       · have e:i=1001+2*rows.length:=by omega
         subst e
         rw[(valF_row hlast).2,show Nat.sub (1001+2*rows.length) (Nat.add 500 (Nat.mul 2 rows.length))=501 by show (1001+2*rows.length)-(500+2*rows.length)=501; omega,zCx (by omega),h6]
     · exact .inl rfl
theorem symsD_get {p:Nat}:∀ {n k j:Nat},j<n→(symsD p n k)[j]? = some (.sym .u64 (upW1 p (k+j)))
 |n+1,k,0,_=>rfl
 |n+1,k,j+1,h=>by
  show (_::symsD p n (k+1))[j+1]? = _
  rw[List.getElem?_cons_succ,symsD_get (n:=n) (by omega),show k+1+j=k+(j+1) by omega]
theorem symsD_len {p:Nat}:∀ n k:Nat,(symsD p n k).length=n
 |0,_=>rfl
 |n+1,k=>by show (symsD p n (k+1)).length+1=_; rw[symsD_len n (k+1)]
theorem upW1_eq (p j:Nat):upW1 p j=if j<p then j else j+1:=by
 unfold upW1
 rw[zAn]
 by_cases h:j<p
 · rw[if_pos (zAd.2 h),if_pos h]
 · rw[if_neg (fun e=>h (zAd.1 e)),if_neg h]
theorem erase_get {rows:List RowW} {p j:Nat}:(rows.eraseIdx p)[j]? = rows[upW1 p j]?:=by
 rw[List.getElem?_eraseIdx,upW1_eq]
 split<;>rfl
theorem wd_abs {rows:List RowW} {next:Nat} {hok:ZBp rows next} {p k:Nat} (hp:p<rows.length) (hk:rows.length=k+1) {hok':ZBp (rows.eraseIdx p) next} {f f':Nat→Value} {hf:∀ j,(f j).oneCell'=true} {hf':∀ j,(f' j).oneCell'=true}
 {φ:Phi} {m:Mem} {w:World} {L:List Blk} {ns:List Nat} (hr:@Rel (tokX rows next hok f hf) TZ φ m w) (habs:zAp (wdMap k p ns) 0 b00 L m=true) :
 @Rel (tokX (rows.eraseIdx p) next hok' f' hf') TZ (zAj (wdMap k p ns) φ) (zAe 2 0 b00 L) w∧∀ t s,absN (wdMap k p ns) 4 t s=true→∀ c,@VRel (tokX rows next hok f hf) φ s c→@VRel (tokX (rows.eraseIdx p) next hok' f' hf') (zAj (wdMap k p ns) φ) t c:=by
 have hlen:(rows.eraseIdx p).length=k:=by rw[List.length_eraseIdx,if_pos hp]; omega
 have hup:∀ j,j<k→upW1 p j<rows.length:=fun j hj=>by
  rw[upW1_eq]
  split<;>omega
 refine absT (T:=tokX rows next hok f hf) (T':=tokX (rows.eraseIdx p) next hok' f' hf') rfl hr habs (fun j hj=>?_) ⟨0,fun d=>rfl,?_,tokX_nx⟩ (fun i=>?_) (fun _=>rfl) rfl
 · have hj':j<k:=by
    have:(wdMap k p ns).ts.length=k:=symsD_len k 0
    omega
   refine ⟨by show j<(rows.eraseIdx p).length; rw[hlen]; exact hj',.inl ⟨upW1 p j,?_,fun _=>?_⟩⟩
   · rw[tok_eq]
     show ((symsD p k 0)[j]?).getD .bad=_
     rw[symsD_get hj',Nat.zero_add]; rfl
   · show (idAt (rows.eraseIdx p) j:Int)=(idAt rows (upW1 p j):Int)
     unfold idAt
     rw[erase_get]
 · show (next:Int)=(next:Int)+0
   omega
 · show (zAc (zAc (.opq i) (.opq (Nat.add 2 i)) (Nat.ble (Nat.succ i) (Nat.add 1000 (Nat.mul 2 p)))) .bad (Nat.ble 1000 i):AVal)=.bad∨∃ s,(zAc (zAc (.opq i) (.opq (Nat.add 2 i)) (Nat.ble (Nat.succ i) (Nat.add 1000 (Nat.mul 2 p)))) .bad (Nat.ble 1000 i):AVal)=.opq s∧valF f' (rows.eraseIdx p) i=valF f rows s
   simp only[zAn,zAd]
   split
   rotate_left
   · exact .inl rfl
   rename_i h1
   obtain ⟨j,hj⟩:=even_odd h1
   refine .inr ⟨if i<1000+2*p then i else i+2,?_,?_⟩
   · by_cases h2:i<1000+2*p
     · rw[if_pos (show Nat.succ i≤Nat.add 1000 (Nat.mul 2 p) from h2),if_pos h2]
     · rw[if_neg (show ¬ Nat.succ i≤Nat.add 1000 (Nat.mul 2 p) from h2),if_neg h2]
       have:Nat.add 2 i=i+2:=Nat.add_comm 2 i
       rw[this]
   · have hs:(if i<1000+2*p then i else i+2)=(if i=1000+2*j then 1000 else 1001)+2*upW1 p j:=by
      rw[upW1_eq]
      by_cases hjp:j<p
      · rw[if_pos hjp,if_pos (by omega)]
        rcases hj with h|h
        · rw[if_pos h]; exact h
        · rw[if_neg (by omega)]; exact h
      · rw[if_neg hjp,if_neg (by omega)]
        rcases hj with h|h
        · rw[if_pos h]; omega
        · rw[if_neg (by omega)]; omega
     rw[hs]
     rcases Nat.lt_or_ge j k with h3|h3
     · have e1:=List.getElem?_eq_getElem (hup j h3)
       have e2:(rows.eraseIdx p)[j]? = some (rows[upW1 p j]'(hup j h3)):=by rw[erase_get]; exact e1
       rcases hj with rfl|rfl
       · rw[if_pos rfl]; exact (valF_eq e2 e1).1
       · rw[if_neg (by omega)]; exact (valF_eq e2 e1).2
     · have h4:rows.length≤upW1 p j:=by rw[upW1_eq]; split<;>omega
       rw[valF_out (by omega),valF_out (by split<;>omega)]
end Go.AM
