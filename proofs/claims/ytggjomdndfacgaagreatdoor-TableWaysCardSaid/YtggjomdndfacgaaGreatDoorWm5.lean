/- For TableWays: TwWAll TwPAll BtW5 BtW6 BtW7. -/
import Derived.Test.YtggjomdndfacgaaGreatDoorWwW0
import Derived.Test.YtggjomdndfacgaaGreatDoorWwW1
import Derived.Test.YtggjomdndfacgaaGreatDoorWwW2
import Derived.Test.YtggjomdndfacgaaGreatDoorWwW3
import Derived.Test.YtggjomdndfacgaaGreatDoorWwP0
import Derived.Test.YtggjomdndfacgaaGreatDoorWwP1
import Derived.Test.YtggjomdndfacgaaGreatDoorWwP2
import Derived.Test.YtggjomdndfacgaaGreatDoorWwP3
import Derived.Test.YtggjomdndfacgaaGreatDoorWm3
set_option linter.unusedSectionVars false
set_option linter.unusedVariables false
set_option linter.unusedSimpArgs false
noncomputable section
namespace Go.AM
set_option maxRecDepth 100000
theorem wL_all (e s:Nat) (h1:e≤2) (h2:s≤16):wL e s=true:=pick2 (zAb wL_0 (zAb wL_1 (zAb wL_2 (wL_3)))) 3 17 (fun _ _=>true) (by kernel_rfl) (by omega) (by omega) rfl
theorem wN_all {e m c s:Nat} (h:e≤2∧2≤m∧m≤6∧c<m∧(e=2→c=0)∧8≤s∧s≤16∧8*(m-1)+s≤50):wN e m c s=true:=
 pick4 (zAb wN_0 (zAb wN_1 (zAb wN_2 (zAb wN_3 (zAb wN_4 (zAb wN_5 (zAb wN_6 (zAb wN_7 (zAb wN_8 (zAb wN_9 (zAb wN_10 (zAb wN_11 (zAb wN_12 (zAb wN_13 (zAb wN_14 (zAb wN_15 (zAb wN_16 (zAb wN_17 (zAb wN_18 (zAb wN_19 (zAb wN_20 (zAb wN_21 (zAb wN_22 (zAb wN_23 (zAb wN_24 (zAb wN_25 (zAb wN_26 (zAb wN_27 (zAb wN_28 (zAb wN_29 (zAb wN_30 (zAb wN_31 (zAb wN_32 (zAb wN_33 (zAb wN_34 (zAb wN_35 (zAb wN_36 (zAb wN_37 (zAb wN_38 (zAb wN_39 (zAb wN_40 (zAb wN_41 (zAb wN_42 (zAb wN_43 (zAb wN_44 (wN_45)))))))))))))))))))))))))))))))))))))))))))))) 3 7 6 17 (fun e m c s=>decide (2≤m∧c<m∧(e=2→c=0)∧8≤s∧8*(m-1)+s≤50)) (by kernel_rfl) (by omega) (by omega) (by omega) (by omega) (decide_eq_true (by omega))
theorem wE_all {e m c s:Nat} (h:e≤1∧2≤m∧m≤6∧c+1<m∧8≤s∧s≤16∧8*(m-1)+s≤50):wE e m c s=true:=
 pick4 (zAb wE_0 (zAb wE_1 (zAb wE_2 (zAb wE_3 (zAb wE_4 (zAb wE_5 (zAb wE_6 (zAb wE_7 (zAb wE_8 (zAb wE_9 (zAb wE_10 (zAb wE_11 (zAb wE_12 (zAb wE_13 (zAb wE_14 (zAb wE_15 (zAb wE_16 (zAb wE_17 (zAb wE_18 (zAb wE_19 (zAb wE_20 (zAb wE_21 (zAb wE_22 (zAb wE_23 (zAb wE_24 (zAb wE_25 (wE_26))))))))))))))))))))))))))) 2 7 6 17 (fun _ m c s=>decide (2≤m∧c+1<m∧8≤s∧8*(m-1)+s≤50)) (by kernel_rfl) (by omega) (by omega) (by omega) (by omega) (decide_eq_true (by omega))
end Go.AM
namespace Go.AM
set_option maxRecDepth 100000
theorem pN_all {m c s:Nat} (h:2≤m∧m≤6∧c<m∧8≤s∧s≤16∧8*(m-1)+s≤49):zAt m c s=true:=
 pick3 (zAb putNRow_0 (zAb putNRow_1 (zAb putNRow_2 (zAb putNRow_3 (zAb putNRow_4 (zAb putNRow_5 (zAb putNRow_6 (zAb putNRow_7 (zAb putNRow_8 (zAb putNRow_9 (zAb putNRow_10 (zAb putNRow_11 (zAb putNRow_12 (zAb putNRow_13 (zAb putNRow_14 (zAb putNRow_15 (zAb putNRow_16 (zAb putNRow_17 (zAb putNRow_18 (zAb putNRow_19 (zAb putNRow_20 (zAb putNRow_21 (zAb putNRow_22 (zAb putNRow_23 (zAb putNRow_24 (zAb putNRow_25 (zAb putNRow_26 (zAb putNRow_27 (zAb putNRow_28 (zAb putNRow_29 (zAb putNRow_30 (zAb putNRow_31 (zAb putNRow_32 (zAb putNRow_33 (zAb putNRow_34 (zAb putNRow_35 (zAb putNRow_36 (zAb putNRow_37 (zAb putNRow_38 (zAb putNRow_39 (zAb putNRow_40 (zAb putNRow_41 (zAb putNRow_42 (zAb putNRow_43 (putNRow_44))))))))))))))))))))))))))))))))))))))))))))) 7 6 17 (fun m c s=>decide (2≤m∧c<m∧8≤s∧8*(m-1)+s≤49)) (by kernel_rfl) (by omega) (by omega) (by omega) (decide_eq_true (by omega))
end Go.AM
namespace Go.AM
open Go.Proofs
theorem placesW_lt {e s p:Nat} (h1:e≤2) (h2:p≤s) (h3:e=1→p<s) (h4:e=2→p=0):p<placesW e s:=by
 unfold placesW
 simp only[zAn,beq_true]
 split
 · rename_i h; have:=h4 h; omega
 · split
   · rename_i h; exact h3 h
   · show p<s+1; omega
theorem tz_wruns:WRuns TZ 2 83 KW 50 where
 glob:=ZAa
 pos:=by decide
 le:=by decide
 sound:=kw_ok
 nextL e s p h1 h2 h3 h4 h5:=zBw (wL_all e s h1 h2) p (placesW_lt h1 h3 h4 h5)
 nextN e m c s p h1 h2 h3 h4 h5 h6 h7 h8 h9 h10:=by
  have hrow:wN e m c s=true:=wN_all ⟨h1,h2,by omega,h3,fun h=>(h9 h).2,h4,h5,h6⟩
  have h:=zBw hrow p (placesW_lt h1 h7 h8 fun h=>(h9 h).1)
  rw[Bool.or_eq_true] at h
  rcases h with h|h
  · have h':(or (Nat.ble (Nat.succ (upW e p)) s) (Nat.beq (Nat.succ c) m))=false:=by simpa using h
    rw[Bool.or_eq_false_iff] at h'
    obtain ⟨k1,k2⟩:=h'
    rcases h10 with h10|h10
    · rw[zAd.2 (show Nat.succ (upW e p)≤s from h10)] at k1; cases k1
    · rw[beq_true.2 (show Nat.succ c=m from h10)] at k2; cases k2
  · exact h
 nextE e m c s s2 p h1 h2 h3 h4 h5 h6 h7 h8 h9:=by
  have hrow:wE e m c s=true:=wE_all (by omega)
  have h:=zBw hrow (s2-8) (by omega)
  have e1:Nat.add 8 (s2-8)=s2:=by show 8+(s2-8)=s2; omega
  have e2:Nat.sub s e=p:=by
   show s-e=p
   unfold upW at h8
   rw[zAn] at h8
   split at h8
   · rename_i he
     rw[beq_true] at he
     have h8':p+1=s:=h8
     omega
   · rename_i he
     rw[beq_true] at he
     omega
  rw[e1,e2] at h
  exact h
theorem tz_pruns:PRuns TZ 2 159 KB 49 where
 glob:=ZAa
 pos:=by decide
 le:=by decide
 sound:=kb_ok
 putL s p hs hp:=zBw (putL_all s hs) p (by show p<s+1; omega)
 putN m c s p h1 h2 h3 h4 h5 hp:=by
  have hrow:zAt m c s=true:=pN_all ⟨h1,by omega,h2,h3,h4,h5⟩
  exact zBw hrow p (by show p<s+1; omega)
end Go.AM
namespace Go.AM
open Go.Proofs
def be8 (u:Nat):List Nat:=[Nat.mod (Nat.div u 72057594037927936) 256,Nat.mod (Nat.div u 281474976710656) 256,Nat.mod (Nat.div u 1099511627776) 256,Nat.mod (Nat.div u 4294967296) 256,Nat.mod (Nat.div u 16777216) 256,Nat.mod (Nat.div u 65536) 256,Nat.mod (Nat.div u 256) 256,Nat.mod u 256]
def keyN (i:Nat):List Nat:=2::be8 (Nat.add 9223372036854775680 i)
def numZ (i:Nat):Int:=Int.subNatNat i 128
def keysN:List Nat→List Nat
 | []=>[]
 |i::l=>keyN i++keysN l
def valsZ:List Nat→List AVal
 | []=>[]
 |i::l=>.int .i64 (.ofNat 2)::.int .i64 (numZ i)::.str []::valsZ l
def bytesZ:List Nat→List AVal
 | []=>[]
 |b::l=>.int .u8 (.ofNat b)::bytesZ l
def keyRunW (K:KH) (l:List Nat):Bool:=
 match K 36 [.slice 3 0 (lenL l) (lenL l) false 3] (zAe 2 0 .none [.cells true (valsZ l)]) with
 | .ok (.tuple [x,e]) m=>and (aeqN 2 e .niliface) (and (freshNs 4 [nmOf x]) (and (absN (zAx 2 [nmOf x]) 2 (.slice 3 0 (Nat.mul 9 (lenL l)) (Nat.mul 9 (lenL l)) false 1) x) (zAp (zAx 2 [nmOf x]) 0 .none [.cells false (bytesZ (keysN l))] m)))
 |_=>false
def zDd (a:Nat):Bool:=and (and (keyRunW KO [a]) (keyRunW KO [a,128])) (and (keyRunW KO [a,129]) (keyRunW KO [a,130]))
def valsV:List Nat→List Value
 | []=>[]
 |i::l=>.int .i64 2::.int .i64 (numZ i)::.string ByteArray.empty::valsV l
def keyZ (l:List Nat):List UInt8:=(keysN l).map UInt8.ofNat
theorem valsZ_rel {T:Tok} {φ:Phi}:∀ l:List Nat,@zAa T φ (valsZ l) (valsV l)
 | []=>@zAa.nil T φ
 |i::l=>@zAa.cons T φ _ _ _ _ (@VRel.int T φ .i64 2) (@zAa.cons T φ _ _ _ _ (@VRel.int T φ .i64 (numZ i)) (@zAa.cons T φ _ _ _ _ (@VRel.str T φ [] ByteArray.empty rfl) (valsZ_rel l)))
theorem valsZ_cell:∀ {l:List Nat} {v:AVal},v∈valsZ l→v.isCell=true
 |i::l,v,h=>by
  have h':v∈.int .i64 (.ofNat 2)::.int .i64 (numZ i)::.str []::valsZ l:=h
  simp only[List.mem_cons] at h'
  rcases h' with rfl|rfl|rfl|h'
  · rfl
  · rfl
  · rfl
  · exact valsZ_cell h'
theorem valsV_len:∀ l:List Nat,(valsV l).length=l.length*3
 | []=>rfl
 |i::l=>by show (valsV l).length+1+1+1=_; rw[valsV_len l,List.length_cons]; omega
theorem keyN_len (i:Nat):(keyN i).length=9:=rfl
theorem keysN_len:∀ l:List Nat,(keysN l).length=9*l.length
 | []=>rfl
 |i::l=>by show (keyN i++keysN l).length=_; rw[List.length_append,keyN_len,keysN_len l,List.length_cons]; omega
theorem keyN_lt {i b:Nat} (h:b∈keyN i):b<256:=by
 unfold keyN be8 at h
 simp only[List.mem_cons,List.not_mem_nil,or_false] at h
 rcases h with rfl|h|h|h|h|h|h|h|h
 · decide
 all_goals (rw[h]; exact Nat.mod_lt _ (by decide))
theorem keysN_lt:∀ {l:List Nat} {b:Nat},b∈keysN l→b<256
 |i::l,b,h=>by
  rcases List.mem_append.1 h with h|h
  · exact keyN_lt h
  · exact keysN_lt h
theorem keyZ_len (l:List Nat):(keyZ l).length=9*l.length:=by unfold keyZ; rw[List.length_map,keysN_len]
theorem bytesZ_un {T:Tok} {φ:Phi}:∀ {l:List Nat},(∀ b,b∈l→b<256)→∀ {us:List Value},@zAa T φ (bytesZ l) us→us=zAl (l.map UInt8.ofNat)
 | [],_,us,h=>by cases h; rfl
 |b::l,hb,us,h=>by
  have h':@zAa T φ (.int .u8 (.ofNat b)::bytesZ l) us:=h
  cases h' with
  |cons h1 h2=>
   cases h1
   rw[bytesZ_un (fun x hx=>hb x (List.mem_cons_of_mem _ hx)) h2]
   have hlt:=hb b (List.mem_cons_self ..)
   have e:(UInt8.ofNat b).toNat=b:=by simp; omega
   show _=Value.int .u8 (((UInt8.ofNat b).toNat:Nat):Int)::_
   rw[e]; rfl
def FreshRow (w:World) (x:Img) (vs:List Value):Prop:=∃ c el fz,w.heap[x.1]? = some (.cells c el fz)∧x.2.2=c.size∧x.2.1+vs.length≤c.size∧(c.toList.drop x.2.1).take vs.length=vs∧∀ i,x.2.1≤i→i≤c.size→¬ (fz.1≤i∧i<fz.2)∧∀ y,c[i]? = some y→y.oneCell'=true
theorem FreshRow.brel {T:Tok} {φ:Phi} {w:World} {q:Nat} {x:Img} {vs:List Value} {cs:List AVal} (h:FreshRow w x vs) (hφ:φ q=some x) (hv:@zAa T φ cs vs) (hc:∀ v,v∈cs→v.isCell=true):@BRel T φ w q (.cells false cs):=by
 obtain ⟨c,el,fz,h1,h2,h3,h4,h5⟩:=h
 have hl:=@zAa.length T φ _ _ hv
 refine ⟨x.1,x.2.1,c,el,fz,by rw[hφ,← h2],h1,by omega,?_,hc,fun _ i hi1 hi2=>h5 i hi1 (by rcases hi2 with h|h<;>omega)⟩
 rw[← hl,h4]; exact hv
theorem key_ok {l:List Nat} (hl:0<l.length) (hl2:l.length≤2) (hrun:keyRunW KO l=true) {w:World} (hgs:2≤w.heap.size) {H:Heap} (hH:In H w) {v:Value} (hv:ZAk H 3 v l.length (valsV l)) :
 Ends TZ 36 #[v] w fun cv w'=>ZAb w w'∧∃ (x:Img) (cap:Nat),cv=.tuple #[.slice (some ⟨x.1,x.2.1,none⟩) (9*l.length) cap,.nilIface]∧9*l.length≤cap∧x.2.1+cap≤x.2.2∧w.heap.size≤x.1∧FreshRow w' x (zAl (keyZ l)):=by
 let T:Tok:=tokB noH (fun _=>nilS) (fun _=>rfl)
 obtain ⟨x,hx,hxv⟩:=row_rel (T:=T) hl hv
 have hφ:ZAh 2 [x] 3=some x:=rfl
 have hone:∀ z:Img,z∈[x]→z=x:=fun z hz=>List.mem_singleton.1 hz
 have hr:@Rel T TZ (ZAh 2 [x]) (zAe 2 0 .none [.cells true (valsZ l)]) w:=
  mkRel ZAa (by decide) hgs rfl (by show 2+1+1≤65536; decide) (fun b hb=>by rw[List.mem_singleton] at hb; subst hb; rfl) (fun z hz=>by rw[hone z hz]; exact hx.lt hH) (fun i b hb=>by
   match i,hb with
   |0,hb=>
    simp only[List.getElem?_cons_zero,Option.some.injEq] at hb
    subst hb
    exact zBy hH hx hφ (valsZ_rel l) fun v hv=>valsZ_cell hv
   |i+1,hb=>simp at hb) (fun b o h=>by cases h)
 have hro:∀ q,q<(zAe 2 0 .none [Blk.cells true (valsZ l)]).next→((zAe 2 0 .none [Blk.cells true (valsZ l)]).get q).wr=false:=
  zCc (by decide) (by show 2+1+1≤65536; decide) rfl fun b hb=>by rw[List.mem_singleton] at hb; subst hb; rfl
 have hargs:@zAa T (ZAh 2 [x]) [.slice 3 0 (lenL l) (lenL l) false 3] (#[v]:Array Value).toList:=by
  rw[ZAm]
  exact @zAa.cons T _ _ _ _ _ (hxv _ _ hφ) (@zAa.nil T _)
 unfold keyRunW at hrun
 split at hrun
 rotate_left
 · cases hrun
 rename_i y e m hq
 simp only[Bool.and_eq_true] at hrun
 obtain ⟨he,hfr,h1,h2⟩:=hrun
 have he':=@ZAf tok0 2 _ _ he
 subst he'
 refine (ko_ok T rfl 36 _ _ _ m hq _ w _ hr hargs).mono fun cv w' ⟨φ',hst,hvc⟩=>⟨ZAb.of hst hro,?_⟩
 obtain ⟨r1,r2⟩:=idRel (T:=T) rfl ZAa (@Step.rel T TZ _ _ _ _ _ _ hst) h2
 obtain ⟨b1,b2⟩:=ZAu (G:=2) (by decide) (l:=[.cells false (bytesZ (keysN l))]) (by show 2+1+1≤65536; decide) (i:=0) rfl
 cases hvc with
 |tuple _ cs hcs=>
  generalize hcl:cs.toList=L at hcs
  cases hcs with
  | @cons _ kv _ _ g1 hcs=>
  cases hcs with
  | @cons _ ev _ _ g2 hcs=>
  cases hcs
  cases g2
  rw[ZAm] at h1
  have hkv:=r2 _ _ (absN_up h1) _ g1
  have ht:=tells_new (by decide) hst hro hfr h2
  have hB:=@Rel.blk T TZ _ _ _ r1 3 b1
  have b2':(zAe 2 0 .none [.cells false (bytesZ (keysN l))]).get 3=.cells false (bytesZ (keysN l)):=b2
  rw[b2'] at hB
  obtain ⟨cb,co,c,el,fz,z1,z2,z3,z4,_,z6⟩:=hB
  have hlen:=@zAa.length T _ _ _ z4
  have hvs:=bytesZ_un (fun b hb=>keysN_lt hb) z4
  have hnew:w.heap.size≤cb:=by
   have h3:=ht 3 (cb,co,c.size) z1 (by rw[b2']; rfl)
   have h3':w'.heap[cb]? = upd noH w w' cb:=h3
   unfold upd at h3'
   split at h3'
   · rw[z2] at h3'; cases h3'
   · omega
  cases hkv with
  |slice _ _ _ _ _ _ cb2 co2 sz2 o2 cap p1 p2 p3 p4 p5 p6=>
   rw[z1] at p1
   cases p1
   have ho:=p5 (by show 9*l.length≠0; omega)
   rw[Nat.add_zero] at ho
   subst ho
   have hll:(bytesZ (keysN l)).length=(zAl (keyZ l)).length:=by rw[← hlen,hvs]; rfl
   refine ⟨(cb,_,c.size),cap,by rw[show cs=#[_,_] by rw[← Array.toList_inj]; exact hcl]; rfl,p3,by show o2+cap≤c.size; omega,hnew,c,el,fz,z2,rfl,?_,?_,fun i hi1 hi2=>z6 rfl i hi1 ?_⟩
   · rw[← hll]; exact z3
   · rw[← hll,hvs]; rfl
   · rcases Nat.lt_or_eq_of_le hi2 with h|h
     · exact .inl h
     · exact .inr ⟨h,rfl⟩
end Go.AM
namespace Go.AM
open Go.Proofs
def nBy (κ:Bool):Nat:=zAc 18 9 κ
def valsKW (κ:Bool):List AVal:=zAc [.int .i64 2,.opq 10,.str [],.int .i64 2,.opq 11,.str []] [.int .i64 2,.opq 11,.str []] κ
def keyXW (κ:Bool) (args:List AVal) (mem:Mem):R:=
 arg1 args fun a=>match a with
  | .slice B 0 n _ _ 3=>(mem.get B).onCells fun _ cs=>
   zAc (.ok (.tuple [.slice mem.next 0 (nBy κ) (nBy κ) false 1,.niliface]) ⟨Nat.succ mem.next,putT mem.next (.cells false (oqs (nBy κ) 20)) mem.t⟩) (.fail 196)
    (and (and (Nat.beq n (zAc 2 1 κ)) (Nat.ble (lenL (valsKW κ)) (lenL cs))) (and (zipB (aeqN 2) (valsKW κ) cs) (Nat.ble (Nat.succ mem.next) 65536)))
  |_=>.fail 197
def XIW (κ found:Bool):Stand:=fun f=>match f with
 |36=>some ⟨keyXW κ⟩
 |83=>some ⟨nextX (oqs (nBy κ) 20) found⟩
 |82=>some ⟨cloneX (zAc (anyV (Nat.add (nBy κ) 8)) [] found)⟩
 |_=>none
def KIW (κ found:Bool):KH:=callX TZ E1 (XIW κ found) 60
def idxLW (κ:Bool):List Blk:=
 [.cells true [.opq 0,.any],.cells true [.any,.slice 5 0 (zAc 2 1 κ) (zAc 2 1 κ) false 1,.bool false,.any],.cells true (zAc [.int .i64 0,.int .i64 1] [.int .i64 1] κ),.cells true [.sym .u64 0,.slice 7 0 2 2 false 3],
  .cells true [.int .i64 2,.opq 10,.str [],.int .i64 2,.opq 11,.str []]]
def idxEndW (κ:Bool) (vs:List AVal) (m:Mem):Bool:=
 match vs with
 | [x2,x6,x18,x19,x20,x74,x79,x82]=>
  and (and (and (aeqN 2 x2 (.ptr 4 0)) (aeqN 2 x6 (.ptr 3 0))) (and (aeqN 2 x18 (.opq 1)) (and (aeqN 2 x19 (.opq 2)) (aeqN 2 x20 (.opq 3))))) (and (aeqN 2 x74 (.ptr 3 0))
   (and (and (absN (symMap [nmOf x79,nmOf x82]) 2 (.slice 3 0 (Nat.add (nBy κ) 8) (Nat.add (nBy κ) 8) false 1) x79) (absN (symMap [nmOf x79,nmOf x82]) 2 (.slice 4 0 1 1 false 1) x82))
    (zAp (symMap [nmOf x79,nmOf x82]) 0 .none [.cells true (appV (oqs (nBy κ) 20) idA),.cells true [.sym .u8 0]] m)))
 |_=>false
def idxOkW (P:Program) (K:KH) (O4:Array Oper) (os:List Oper) (cs:List Code) (pre:Array Oper) (κ:Bool):Bool:=
 match zCg P 86 K O4 os idxR0 [2,6,8,18,19,20] (zAe 2 0 .none (idxLW κ)) with
 | .ok (.tuple v1) m1=>(match zBv P 86 K cs ⟨true,fun _=>false,false⟩ (List.zip [2,6,8,18,19,20] v1) [2,6,8,11,18,19,20] m1 with
  | .ok (.tuple v2) m2=>(match preRun P 86 K pre (List.zip [2,6,8,11,18,19,20] v2) [2,6,18,19,20,74,79,82] m2 with
   | .ok (.tuple v3) m3=>idxEndW κ v3 m3
   |_=>false)
  |_=>false)
 |_=>false
def iOkW (κ found:Bool):Bool:=idxOkW TZ (KIW κ found) O53_4 (O53_4.toList.drop 1) C53 Pre53 κ
theorem iw_tt:iOkW true true=true:=by kernel_rfl
theorem iw_tf:iOkW true false=true:=by kernel_rfl
theorem iw_ft:iOkW false true=true:=by kernel_rfl
theorem iw_ff:iOkW false false=true:=by kernel_rfl
theorem clone17:cloneRun KO 82 2 17=true:=by kernel_rfl
end Go.AM
