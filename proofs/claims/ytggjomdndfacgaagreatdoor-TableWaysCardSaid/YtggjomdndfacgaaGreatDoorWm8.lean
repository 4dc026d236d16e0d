/- For TableWays: TrAll BtR7 BtR8 BtR9 BtRA BtRB BtRC BtRD BtRE BtRF BtRG BtRH TmA TmB BtS1 BtS2 BtL1 BtL2 TmC BtL3 BtL4 BtL5 BtL6 BtL7 TmD BtL8 BtL9 BtLA BtLB BtLC BtLD. -/
import Derived.Test.YtggjomdndfacgaaGreatDoorWrA0
import Derived.Test.YtggjomdndfacgaaGreatDoorWrA1
import Derived.Test.YtggjomdndfacgaaGreatDoorWrL0
import Derived.Test.YtggjomdndfacgaaGreatDoorWrL1
import Derived.Test.YtggjomdndfacgaaGreatDoorWrL2
import Derived.Test.YtggjomdndfacgaaGreatDoorWrL3
import Derived.Test.YtggjomdndfacgaaGreatDoorWrP0
import Derived.Test.YtggjomdndfacgaaGreatDoorWm7
import Derived.Test.YtggjomdndfacgaaGreatDoorWm3
set_option linter.unusedSectionVars false
set_option linter.unusedVariables false
set_option linter.unusedSimpArgs false
noncomputable section
namespace Go.AM
set_option maxRecDepth 100000
theorem raRow_all:∀ n,n<51→raRow n=true:=fun _ h=>pick1 (zAb raRow_0 (zAb raRow_1 (zAb raRow_2 (zAb raRow_3 (zAb raRow_4 (zAb raRow_5 (zAb raRow_6 (zAb raRow_7 (zAb raRow_8 (zAb raRow_9 (zAb raRow_10 (zAb raRow_11 (zAb raRow_12 (zAb raRow_13 (raRow_14))))))))))))))) 51 (by kernel_rfl) h
theorem lkC_all:∀ n,n<51→∀ c,c<7→lkC n c=true:=fun _ h _ h2=>pick2 (zAb lkC_0 (zAb lkC_1 (zAb lkC_2 (zAb lkC_3 (zAb lkC_4 (zAb lkC_5 (zAb lkC_6 (zAb lkC_7 (zAb lkC_8 (zAb lkC_9 (zAb lkC_10 (zAb lkC_11 (zAb lkC_12 (zAb lkC_13 (lkC_14))))))))))))))) 51 7 (fun _ _=>true) (by kernel_rfl) h h2 rfl
theorem apAt_all:∀ n,n<50→apAt n=true:=fun _ h=>pick1 (zAb apAt_0 (zAb apAt_1 (zAb apAt_2 (apAt_3)))) 50 (by kernel_rfl) h
end Go.AM
namespace Go.AM
open Go.Proofs
theorem keyRow1 {i:Nat} (hi:i<256):keyRunW KO [i]=true:=by
 have h:=keyRow_all i hi
 unfold zDd at h
 simp only[Bool.and_eq_true] at h
 exact h.1.1
theorem one_un {T:Tok} {φ:Phi} {i:Nat} (h11:T.val 11=.int .i64 (numZ i)) {vs:List Value} (h:@zAa T φ [.int .i64 2,.opq 11,.str []] vs):vs=valsV [i]:=by
 obtain ⟨c1,c2,c3,rfl,h1,h2,h3⟩:=vs3 h
 rw[intE h1,ZAw h2,strE h3,h11]; rfl
theorem keyXE_ok {T:Tok} {i:Nat} (hi:i<256) (h11:T.val 11=.int .i64 (numZ i)) (hb:∀ j v,(zAl (keyZ [i]))[j]? = some v→T.val (20+j)=v):@ZCr T TZ 36 (keyXW false):=by
 intro args m v m' h φ w cargs hrel hv
 obtain ⟨a,rfl,h1⟩:=arg1_ok h
 split at h1
 rotate_left
 · cases h1
 rename_i B n cp ex
 obtain ⟨ro,cs,hB,h3⟩:=zBo h1
 obtain ⟨h4,h5⟩:=zAm h3
 simp only[Bool.and_eq_true,beq_true,zAd,ZAm] at h4
 obtain ⟨⟨hn,hnc⟩,hz,hnext⟩:=h4
 cases h5
 generalize hcl:cargs.toList=L at hv
 cases hv with
 | @cons _ sv _ _ v1 hv=>
 cases hv
 have hca:cargs=#[sv]:=by rw[← Array.toList_inj]; exact hcl
 rw[hca]
 have hn1:n=1:=hn
 subst hn1
 have hrow:ZAk (zAk w) 3 sv 1 (valsV [i]):=by
  cases v1 with
  |slice _ _ _ _ _ _ cb co sz o' cap' q1 q2 q3 q4 q5 q6=>
   have hBr:=@Rel.blk T TZ _ _ _ hrel B (@Rel.dom T TZ _ _ _ hrel _ _ q1)
   rw[hB] at hBr
   obtain ⟨cb2,co2,c,el,fz,g1,g2,g3,g4,_⟩:=hBr
   rw[q1] at g1
   cases g1
   have ho:=q5 (by omega)
   rw[Nat.add_zero] at ho
   subst ho
   have h6:=ZCn (T:=T) (φ:=φ) (valsKW false).length g4
   rw[zip_pre hz (by omega)] at h6
   have h7:=one_un h11 h6
   have hvl:(valsKW false).length=3:=rfl
   rw[List.take_take,Nat.min_eq_left (by omega),hvl] at h7
   have hnc':3≤cs.length:=hnc
   refine .inr ⟨(cb,o',c.size),cap',(by decide:0<1),rfl,rfl,by omega,q6,c,el,fz,g2,rfl,?_,h7⟩
   show o'+3≤c.size
   omega
 refine (key_ok (l:=[i]) (by simp) (by simp) (keyRow1 hi) (rel_two hrel) (fun b o h=>h) hrow).mono fun cv w' ⟨hl,x,cap,hcv,hc1,hc2,hc3,hfr⟩=>?_
 obtain ⟨c,el,fz,z1,z2,z3,z4,z5⟩:=hfr
 have hlt:x.1<w'.heap.size:=@ZAq tok0 w' x.1 _ z1
 have hrel2:∀ φ',@zAa T φ' (oqs (nBy false) 20) (zAl (keyZ [i])):=fun φ'=>by
  have:=ZCx (T:=T) (φ:=φ') (zAl (keyZ [i])) 20 hb
  rwa [ZAc,keyZ_len] at this
 have hc1':9≤cap:=hc1
 refine ⟨_,@Step.add TZ T φ m w hrel w' (.cells false (oqs (nBy false) 20)) x.1 x.2.1 x.2.2 (by omega) hl.1 hl.2.1 hl.2.2.1 hl.2.2.2.1 hl.2.2.2.2 hc3 hlt ?_,?_⟩
 · exact FreshRow.brel ⟨c,el,fz,z1,z2,z3,z4,z5⟩ (if_pos rfl) (hrel2 _) fun v hv=>zBp (zCf hv)
 · rw[hcv]
   refine @VRel.tuple T _ _ _ (@zAa.cons T _ _ _ _ _ ?_ (@zAa.cons T _ _ _ _ _ (@VRel.niliface T _) (@zAa.nil T _)))
   exact @VRel.slice T _ m.next 0 (nBy false) (nBy false) false 1 x.1 x.2.1 x.2.2 x.2.1 cap (by simp) (Nat.le_refl _) hc1' (fun h=>by cases h) (fun _=>rfl) (by omega)
theorem kr_ok {T:Tok} {md:Nat} {i:Nat} (h:md=3→i<256∧T.val 11=.int .i64 (numZ i)∧∀ j v,(zAl (keyZ [i]))[j]? = some v→T.val (20+j)=v):@zBb T TZ (KR md):=by
 refine callX_ok zBt tz_gprog tz_ext (fun f g hh=>?_) 60
 unfold XR at hh
 split at hh
 · rw[zAn] at hh
   split at hh
   · rename_i hb
     obtain ⟨h1,h2,h3⟩:=h (beq_true.1 hb)
     cases hh
     exact keyXE_ok h1 h2 h3
   · cases hh
 · cases hh
theorem ra_at {n md:Nat} (hn:n≤50) (hmd:md<4):raRun TZ (KR md) CSR n md=true:=by
 have h:=raRow_all n (by omega)
 unfold raRow at h
 simp only[Bool.and_eq_true] at h
 match md,hmd with
 |0,_=>exact h.1.1
 |1,_=>exact h.1.2
 |2,_=>exact h.2.1
 |3,_=>exact h.2.2
theorem gR:CSR.all (ZBh TZ.globals.size)=true:=by kernel_rfl
theorem retok {T:Tok} {φ:Phi} {L:List Blk} {w:World} (hr:@Rel T TZ φ (zAe 2 0 b00 L) w) (hlen:3+L.length≤65536) {i:Nat} {cs cs':List AVal} (hi:L[i]? = some (.cells true cs)) {x:Img} {vs:List Value} (hx:φ (3+i)=some x) (hc:zAi (zAk w) x vs) (hv:@zAa T φ cs' vs) (hcell:∀ v,v∈cs'→v.isCell=true) :
 @Rel T TZ φ (zAe 2 0 b00 (L.set i (.cells true cs'))) w:=by
 have hil:=zAf hi
 have hn:(zAe 2 0 b00 (L.set i (.cells true cs'))).next=(zAe 2 0 b00 L).next:=by rw[ZBb,ZBb,List.length_set]
 have get:∀ p,p<65536→(zAe 2 0 b00 (L.set i (.cells true cs'))).get p=if p=3+i then .cells true cs' else (zAe 2 0 b00 L).get p:=fun p hp=>by
  rw[zAu (by decide) (by rw[List.length_set]; exact hlen) hp,zAu (by decide) hlen hp,List.length_set]
  by_cases e:p=3+i
  · rw[if_pos e,if_pos (by omega)]
    have:p-(2+1)=i:=by omega
    rw[this,List.getElem?_set_self hil]; rfl
  · rw[if_neg e]
    split
    · rw[List.getElem?_set_ne (by omega)]
    · rfl
 have hb:=@Rel.bound T TZ _ _ _ hr
 have same:∀ p,p<(zAe 2 0 b00 L).next→((zAe 2 0 b00 (L.set i (.cells true cs'))).get p).wr=((zAe 2 0 b00 L).get p).wr∧((zAe 2 0 b00 (L.set i (.cells true cs'))).get p).live=((zAe 2 0 b00 L).get p).live:=fun p hp=>by
  rw[get p (by omega)]
  split
  · rename_i e
    subst e
    obtain ⟨_,h2⟩:=zAv (b0:=b00) hlen hi
    rw[h2]
    exact ⟨rfl,rfl⟩
  · exact ⟨rfl,rfl⟩
 have h2n:2<(zAe 2 0 b00 L).next:=by rw[ZBb]; omega
 refine ⟨by rw[hn]; exact hb,fun p x h=>by rw[hn]; exact @Rel.dom T TZ _ _ _ hr p x h,@Rel.heap T TZ _ _ _ hr,@Rel.handle T TZ _ _ _ hr,?_,@Rel.glob T TZ _ _ _ hr,fun p hp=>?_,fun p q b o s o' s' hp hq hpq hw hl h1 h2=>?_,fun p h1 h2=>?_,@Rel.held T TZ _ _ _ hr,fun p b o s hp hw hφ=>?_,fun hst=>?_⟩
 · rw[get _ (by rw[ZAa]; decide),if_neg (by rw[ZAa]; omega)]
   exact @Rel.nohandle T TZ _ _ _ hr
 · rw[hn] at hp
   rw[get p (by omega)]
   split
   · rename_i e
     subst e
     exact zBy (fun b o h=>h) hc hx hv hcell
   · exact @Rel.blk T TZ _ _ _ hr p hp
 · rw[hn] at hp hq
   rw[(same p hp).1] at hw
   rw[(same q hq).2] at hl
   exact @Rel.inj T TZ _ _ _ hr p q b o s o' s' hp hq hpq hw hl h1 h2
 · rw[hn] at h1
   rw[get p h2,if_neg (by rw[ZBb] at h1; omega)]
   exact @Rel.clean T TZ _ _ _ hr p h1 h2
 · rw[hn] at hp
   rw[(same p hp).1] at hw
   exact @Rel.apart T TZ _ _ _ hr p b o s hp hw hφ
 · rw[(same 0 (by omega)).2]
   exact @Rel.mode T TZ _ _ _ hr hst
end Go.AM
namespace Go.AM
open Go.Proofs
def HA (w:World) (p q:Nat):Heap:=fun b=>if b=p∨b=q then none else w.heap[b]?
theorem HA_in {w:World} {p q:Nat}:In (HA w p q) w:=fun b o h=>by
 unfold HA at h
 split at h
 · cases h
 · exact h
theorem zAi.ha {w:World} {p q:Nat} {x:Img} {vs:List Value} (h:zAi (zAk w) x vs) (hp:x.1≠p) (hq:x.1≠q):zAi (HA w p q) x vs:=by
 obtain ⟨c,el,fz,h1,h2⟩:=h
 refine ⟨c,el,fz,?_,h2⟩
 unfold HA
 rw[if_neg (by rintro (e|e)<;>contradiction)]
 exact h1
theorem zBf.mono {κ:Bool} {rows:List RowW} {H H':Heap} {root:Value} {sg:Sigs} (h:zBf κ rows H root sg) (hm:∀ b o,H b=some o→H' b=some o):zBf κ rows H' root sg:=
 ⟨h.tree.mono hm,h.inv,h.len,fun e he=>⟨(h.row e he).1.mono hm,(h.row e he).2⟩,h.all,fun e he=>by
  obtain ⟨s,q1,q2,q3⟩:=h.vals e he
  exact ⟨s,q1,q2,q3.mono hm⟩⟩
def Left2 (p q:Nat) (w w':World):Prop:=(∀ b,b<w.heap.size→b≠p→b≠q→w'.heap[b]? = w.heap[b]?)∧w.heap.size≤w'.heap.size∧w'.os=w.os∧w'.output=w.output∧w'.tape=w.tape
theorem Left2.refl {p q:Nat} {w:World}:Left2 p q w w:=⟨fun _ _ _ _=>rfl,Nat.le_refl _,rfl,rfl,rfl⟩
theorem Left2.then {p q r:Nat} {w w' w'':World} (h:Left2 p q w w') (h':zBk r w' w'') (hr:r=p∨r=q∨w.heap.size≤r):Left2 p q w w'':=
 ⟨fun b hb h1 h2=>(h'.1 b (Nat.lt_of_lt_of_le hb h.2.1) (fun e=>by subst e; rcases hr with e|e|e<;>first|exact h1 e|exact h2 e|omega)).trans (h.1 b hb h1 h2),Nat.le_trans h.2.1 h'.2.1,h'.2.2.1.trans h.2.2.1,h'.2.2.2.1.trans h.2.2.2.1,h'.2.2.2.2.trans h.2.2.2.2⟩
theorem Left2.ha {p q:Nat} {w w':World} (h:Left2 p q w w'):In (HA w p q) w':=fun b o hb=>by
 have hlt:b<w.heap.size:=@ZAq tok0 w b o (HA_in b o hb)
 unfold HA at hb
 split at hb
 · cases hb
 · rename_i hne
   rw[h.1 b hlt (fun e=>hne (.inl e)) (fun e=>hne (.inr e))]
   exact hb
theorem Left2.of' {p q:Nat} {w w' w'':World} (h:Left2 p q w w') (h':ZAb w' w''):Left2 p q w w'':=h.then (r:=p) (zBk.of h') (.inl rfl)
def RK (rows:List RowW) (next:Nat) (hok:ZBp rows next) (f:Nat→Value) (hf:∀ j,(f j).oneCell'=true) (wA:World) (xc xm xw xx xk:Img) (w:World):Prop:=
 ∃ φ:Phi,@Rel (tokX rows next hok f hf) TZ φ (zAe 2 0 b00 (rkL rows.length (.opq 30) (.opq 31))) w∧φ 8=some xm∧φ (mAtW rows.length)=some xw∧φ (Nat.add (mAtW rows.length) 1)=some xx∧φ (Nat.add (mAtW rows.length) 2)=some xk∧
  ∀ p b o s,p<(zAe 2 0 b00 (rkL rows.length (.opq 30) (.opq 31))).next→((zAe 2 0 b00 (rkL rows.length (.opq 30) (.opq 31))).get p).live=true→φ p=some (b,o,s)→b≠xc.1∧b<wA.heap.size
section
variable {rows:List RowW} {next:Nat} {hok:ZBp rows next} {f:Nat→Value} {hf:∀ j,(f j).oneCell'=true} {wA:World} {xc xm xw xx xk:Img}
theorem RK.move {w w':World} (h:RK rows next hok f hf wA xc xm xw xx xk w) {r:Nat} (hl:zBk r w w') (hr:r=xc.1∨wA.heap.size≤r) (hs:wA.heap.size≤w.heap.size):RK rows next hok f hf wA xc xm xw xx xk w':=by
 obtain ⟨φ,h1,h2,h3,h4,h5,h6⟩:=h
 refine ⟨φ,@Rel.move (tokX rows next hok f hf) TZ _ _ _ h1 (fun _=>rfl) w' hl.2.1 fun p b o s hp hlv hφ=>?_,h2,h3,h4,h5,h6⟩
 obtain ⟨q1,q2⟩:=h6 p b o s hp hlv hφ
 refine hl.1 b (by omega) fun e=>?_
 subst e
 rcases hr with e|e
 · exact q1 e
 · omega
end
structure RCtx (rows:List RowW) (next:Nat) (hok:ZBp rows next) (f:Nat→Value) (hf:∀ j,(f j).oneCell'=true) (v:WayV) (eqv:Value) (i:Nat) (wA:World) (xc xm xw xx xk:Img) (p:Img) (root:Value) (sg:Sigs) (fromv:Value):Prop where
 rk:RK rows next hok f hf wA xc xm xw xx xk wA
 gs:2≤wA.heap.size
 cm:xc.1≠xm.1
 clt:xc.1<wA.heap.size
 mlt:xm.1<wA.heap.size
 md:v.md<4
 hi:i<256
 lo:v.md=3→v.lo=numZ i
 tree:zAi (HA wA xc.1 xm.1) p [root,.int .i64 (rows.length:Int)]
 inv:zBf true rows (HA wA xc.1 xm.1) root sg
 way:zAi (HA wA xc.1 xm.1) xw (v.cells eqv)
 eq:EqAt (HA wA xc.1 xm.1) v eqv
 from0:v.md≠3→fromv=nilS
 from3:v.md=3→ZAk (HA wA xc.1 xm.1) 1 fromv 9 (zAl (keyZ [i]))
 name:(f 30).oneCell'=true∧(f 31).oneCell'=true
theorem img_ne {T:Tok} {φ:Phi} {m:Mem} {w:World} (hr:@Rel T TZ φ m w) {p q:Nat} (hpq:p≠q) (hp:p<m.next) (hq:q<m.next) (hw:(m.get p).wr=true) (hl:(m.get q).live=true) {x y:Img} (h1:φ p=some x) (h2:φ q=some y):x.1≠y.1:=fun e=>
 @Rel.inj T TZ _ _ _ hr p q x.1 x.2.1 x.2.2 y.2.1 y.2.2 hp hq hpq hw hl h1 (by rw[e]; exact h2)
end Go.AM
namespace Go.AM
open Go.Proofs
theorem abs_at {σ:Map} (hG:σ.G=2) {b0:Blk} {L:List Blk} {m:Mem} (habs:zAp σ 0 b0 L m=true) {j n:Nat} {b:Blk} (hb:L[j]? = some b) (hn:σ.ns[j]? = some n):2<n∧n<m.next∧absB σ b (m.get n)=true:=by
 unfold zAp at habs
 simp only[Bool.and_eq_true] at habs
 obtain ⟨_,h1,h2⟩:=(chkL_ok habs.2.2).2 j b n hb hn
 rw[hG] at *
 exact ⟨by omega,h1,h2⟩
theorem abs_len {σ:Map} {b0:Blk} {L:List Blk} {m:Mem} (habs:zAp σ 0 b0 L m=true):L.length=σ.ns.length:=by
 unfold zAp at habs
 simp only[Bool.and_eq_true] at habs
 exact (chkL_ok habs.2.2).1
theorem ZCf {σ:Map} {t s:Blk} (h:absB σ t s=true) (hl:t.live=true):s.live=true:=(absB_wr h).2 hl
theorem slice_isX {T:Tok} {φ:Phi} {b n z:Nat} {c:Value} {x:Img} (hn:0<n) (h:@VRel T φ (.slice b 0 n n true z) c) (hφ:φ b=some x):c=.slice (some ⟨x.1,x.2.1,none⟩) n n:=by
 cases h with
 |slice _ _ _ _ _ _ cb co sz o' cap' q1 q2 q3 q4 q5 q6=>
  rw[hφ] at q1
  cases q1
  have ho:=q5 (by omega)
  have hc:=q4 rfl
  subst hc
  rw[ho]; rfl
theorem ptr_ex {T:Tok} {φ:Phi} {q:Nat} {c:Value} (h:@VRel T φ (.ptr q 0) c):∃ x,φ q=some x∧c=ptrV x:=by
 cases h with
 |ptr _ _ cb co sz h1=>exact ⟨(cb,co,sz),h1,rfl⟩
theorem way_un {T:Tok} {φ:Phi} {v:WayV} (hmd:v.md<4) {q:Nat} (h12:T.val 12=.int .i64 v.lo) (h13:T.val 13=.int .i64 v.hi) {us:List Value} (h:@zAa T φ (wayL q v.md) us):∃ u,us=v.cells u∧@VRel T φ (wayEq q v.md) u:=by
 obtain ⟨md,lo,hi⟩:=v
 have mk:∀ {us:List Value} {a1 a2 a3 a4 a5 a6 a7 a8 a9 a10:AVal},@zAa T φ [a1,a2,a3,a4,a5,a6,a7,a8,a9,a10] us→∃ c1 c2 c3 c4 c5 c6 c7 c8 c9 c10:Value,us=[c1,c2,c3,c4,c5,c6,c7,c8,c9,c10]∧@VRel T φ a1 c1∧@VRel T φ a2 c2∧@VRel T φ a3 c3∧@VRel T φ a4 c4∧@VRel T φ a5 c5∧@VRel T φ a6 c6∧@VRel T φ a7 c7∧@VRel T φ a8 c8∧@VRel T φ a9 c9∧@VRel T φ a10 c10:=fun h=>by
  cases h with
  |cons h1 h=>
  cases h with
  |cons h2 h=>
  cases h with
  |cons h3 h=>
  cases h with
  |cons h4 h=>
  cases h with
  |cons h5 h=>
  cases h with
  |cons h6 h=>
  cases h with
  |cons h7 h=>
  cases h with
  |cons h8 h=>
  cases h with
  |cons h9 h=>
  cases h with
  |cons h10 h=>
  cases h
  exact ⟨_,_,_,_,_,_,_,_,_,_,rfl,h1,h2,h3,h4,h5,h6,h7,h8,h9,h10⟩
 have bl:∀ {b:Bool} {c:Value},@VRel T φ (.bool b) c→c=.bool b:=fun h=>by cases h; rfl
 have h12':T.val 12=.int .i64 lo:=h12
 have h13':T.val 13=.int .i64 hi:=h13
 match md,hmd with
 |0,_=>
  obtain ⟨c1,c2,c3,c4,c5,c6,c7,c8,c9,c10,rfl,h1,h2,h3,h4,h5,h6,h7,h8,h9,h10⟩:=mk h
  refine ⟨c2,?_,h2⟩
  rw[intE h1,intE h3,ZAw h4,strE h5,intE h6,intE h7,strE h8,bl h9,bl h10,h12']; rfl
 |1,_=>
  obtain ⟨c1,c2,c3,c4,c5,c6,c7,c8,c9,c10,rfl,h1,h2,h3,h4,h5,h6,h7,h8,h9,h10⟩:=mk h
  refine ⟨c2,?_,h2⟩
  rw[intE h1,intE h3,intE h4,strE h5,intE h6,ZAw h7,strE h8,bl h9,bl h10,h13']; rfl
 |2,_=>
  obtain ⟨c1,c2,c3,c4,c5,c6,c7,c8,c9,c10,rfl,h1,h2,h3,h4,h5,h6,h7,h8,h9,h10⟩:=mk h
  refine ⟨c2,?_,h2⟩
  rw[intE h1,intE h3,ZAw h4,strE h5,intE h6,ZAw h7,strE h8,bl h9,bl h10,h12',h13']; rfl
 |3,_=>
  obtain ⟨c1,c2,c3,c4,c5,c6,c7,c8,c9,c10,rfl,h1,h2,h3,h4,h5,h6,h7,h8,h9,h10⟩:=mk h
  refine ⟨c2,?_,h2⟩
  rw[intE h1,intE h3,intE h4,strE h5,intE h6,intE h7,strE h8,bl h9,bl h10]; rfl
theorem swNs9_len (n:Nat):3+(swNs9 n).length=mAtW n:=by
 unfold swNs9 mAtW
 rw[zAn]
 cases n with
 |zero=>rfl
 |succ k=>
  rw[if_neg (by simp)]
  have hl:∀ n k:Nat,(natL n k).length=n:=by
   intro n
   induction n with
   |zero=>intro k; rfl
   |succ n ih=>intro k; show (natL n (k+1)).length+1=n+1; rw[ih]
  show 3+((natL (k+2) 12).length+9)=13+(k+1)
  rw[hl]; omega
theorem appNs_app:∀ a b:List Nat,appNs a b=a++b
 | [],_=>rfl
 |x::a,b=>by show x::appNs a b=_; rw[appNs_app a b]; rfl
theorem roNs_get (n a b c:Nat):(roNs n a b c)[mAtW n-3]? = some a∧(roNs n a b c)[mAtW n-2]? = some b∧(roNs n a b c)[mAtW n-1]? = some c:=by
 have h:=swNs9_len n
 unfold roNs
 rw[appNs_app]
 refine ⟨?_,?_,?_⟩
 · rw[List.getElem?_append_right (by omega),show mAtW n-3-(swNs9 n).length=0 by omega]; rfl
 · rw[List.getElem?_append_right (by omega),show mAtW n-2-(swNs9 n).length=1 by omega]; rfl
 · rw[List.getElem?_append_right (by omega),show mAtW n-1-(swNs9 n).length=2 by omega]; rfl
theorem mAtW_ge (n:Nat):12≤mAtW n:=by
 unfold mAtW
 rw[zAn]
 split
 · exact Nat.le_refl _
 · show 12≤13+n
   omega
theorem freshN_mem {n:Nat} {l:List Nat} (h:freshN n l=true) {x:Nat} (hx:x∈l):n≠x:=fun e=>by
 subst e
 exact freshN_ok h hx
def raF (g:Nat→Value) (v:WayV) (i:Nat) (c1 c4:Value) (j:Nat):Value:=
 if j=11 then .int .i64 v.lo else if j=12 then .int .i64 v.lo else if j=13 then .int .i64 v.hi else if j=30 then c1 else if j=31 then c4 else if 20≤j∧j<29 then ((zAl (keyZ [i]))[j-20]?).getD nilS else g j
theorem raF_cell {g:Nat→Value} (hg:∀ j,(g j).oneCell'=true) (v:WayV) (i:Nat) {c1 c4:Value} (h1:c1.oneCell'=true) (h4:c4.oneCell'=true) (j:Nat):(raF g v i c1 c4 j).oneCell'=true:=by
 unfold raF
 repeat' split
 all_goals first|rfl|assumption|exact getD_cell|exact hg j
theorem raF_old {g:Nat→Value} {v:WayV} {i:Nat} {c1 c4:Value} {j:Nat} (h:j≤2):raF g v i c1 c4 j=g j:=by
 unfold raF
 rw[if_neg (by omega),if_neg (by omega),if_neg (by omega),if_neg (by omega),if_neg (by omega),if_neg (by omega)]
theorem raF_key {g:Nat→Value} {v:WayV} {i:Nat} {c1 c4:Value} {j:Nat} {u:Value} (h:(zAl (keyZ [i]))[j]? = some u):raF g v i c1 c4 (20+j)=u:=by
 have hj:=zAf h
 have hl:(zAl (keyZ [i])).length=9:=by rw[ZAc,keyZ_len]; rfl
 rw[hl] at hj
 unfold raF
 rw[if_neg (by omega),if_neg (by omega),if_neg (by omega),if_neg (by omega),if_neg (by omega),if_pos (by omega),show 20+j-20=j by omega,h]; rfl
end Go.AM
namespace Go.AM
open Go.Proofs
theorem rowFrom {T:Tok} {φ:Phi} {H:Heap} {A n z:Nat} {c:Value} {y:Img} {vs:List Value} (hn:0<n) (h:@VRel T φ (.slice A 0 n n false z) c) (hφ:φ A=some y) (hc:zAi H y vs) (hlen:vs.length=n*z):ZAk H z c n vs:=by
 cases h with
 |slice _ _ _ _ _ _ cb co sz o' cap' q1 q2 q3 q4 q5 q6=>
  rw[hφ] at q1
  cases q1
  have ho:=q5 (by omega)
  rw[Nat.add_zero] at ho
  subst ho
  exact .inr ⟨_,cap',hn,hlen,rfl,by omega,q6,hc⟩
theorem nilE {T:Tok} {φ:Phi} {c:Value} (h:@VRel T φ .nilslice c):c=nilS:=by cases h; rfl
theorem zip2 {σ:Map} {a1 a2 a3 b1 b2 b3:AVal} (h:zipB (absN σ 4) [a1,a2,a3] [b1,b2,b3]=true):absN σ 4 a1 b1=true∧absN σ 4 a2 b2=true∧absN σ 4 a3 b3=true:=by
 have h':zAc (zAc (zAc true false (absN σ 4 a3 b3)) false (absN σ 4 a2 b2)) false (absN σ 4 a1 b1)=true:=h
 rw[zAn,zAn,zAn] at h'
 split at h'
 · rename_i q1
   split at h'
   · rename_i q2
     split at h'
     · rename_i q3; exact ⟨q1,q2,q3⟩
     · cases h'
   · cases h'
 · cases h'
theorem rkL_set (n:Nat):(rkL n .any .any).set 4 (.cells true [.opq 30,.slice 10 0 2 2 false 1,.bool false,.opq 31,.any,.any,.any,.any])=rkL n (.opq 30) (.opq 31):=rfl
theorem rkL_len (n:Nat) (x y:AVal):3+(rkL n x y).length=mAtW n+3:=by
 unfold rkL rkTail mAtW
 rw[zAn]
 cases n with
 |zero=>rfl
 |succ k=>
  rw[if_neg (by simp)]
  show 3+((ZCa (valsWL (natL (k+1) 0)) [boxW,boxX,boxK]).length+1+9)=13+(k+1)+3
  rw[ZBm,List.length_append,valsWL_len]
  simp only[List.length_cons,List.length_nil]
  omega
theorem rsNs_get {q md nw nc nf nk:Nat}:(rsNs q md nw nc nf nk)[0]? = some nw∧(rsNs q md nw nc nf nk)[1]? = some nc∧(md=3→(rsNs q md nw nc nf nk)[2]? = some q∧(rsNs q md nw nc nf nk)[3]? = some nf∧(rsNs q md nw nc nf nk)[4]? = some nk):=by
 unfold rsNs
 rw[zAn]
 split
 · exact ⟨rfl,rfl,fun _=>⟨rfl,rfl,rfl⟩⟩
 · rename_i h
   exact ⟨rfl,rfl,fun e=>absurd (beq_true.2 e) h⟩
theorem rsL_get {md:Nat}:(rsL md)[0]? = some (.cells true (wayL 5 md))∧(md≠3→(rsL md)[1]? = some (.cells false [.opq 1,.nilslice,.bool false]))∧(md=3→(rsL md)[1]? = some (.cells false [.opq 1,.slice 7 0 9 9 false 1,.bool false])∧(rsL md)[3]? = some (.cells true (oqs 9 20))∧(rsL md)[4]? = some (.cells true (oqs 9 20)))∧(rsL md).length≤5:=by
 unfold rsL
 rw[zAn]
 split
 · rename_i h
   exact ⟨rfl,fun e=>absurd (beq_true.1 h) e,fun _=>⟨rfl,rfl,rfl⟩,by simp⟩
 · rename_i h
   exact ⟨rfl,fun _=>rfl,fun e=>absurd (beq_true.2 e) h,by simp⟩
section
variable {rows:List RowW} {next:Nat} {hok:ZBp rows next} {own:Nat→Nat} {tag:Nat} {w:World} {sp:Value}
attribute [local irreducible] CSR in
theorem rowsA (hS:StoW rows next hok sp tag own w) (htag:tag≠0) (h00:own 0=0) {v:WayV} (hmd:v.md<4) {i:Nat} (hi:i<256) (hlo:v.md=3→v.lo=numZ i) {eqv:Value} (he:EqAt (zAk w) v eqv) (heo:∀ x:Img,eqv=.slice (some ⟨x.1,x.2.1,none⟩) 1 1→own x.1=0)
 {a:Act} (ha:zAr 144 [(0,sp),(1,.int .i64 0),(2,.agg (v.cells eqv).toArray)] a) {rest:Code} {Q:Exit→Act→World→Prop}
 (hn:∀ a' wA own1 f hf xc xm xw xx xk p root sg fromv keyv,RCtx rows next hok f hf v eqv i wA xc xm xw xx xk p root sg fromv→zAr 144 [(5,ptrV xw),(8,ptrV xx),(9,ptrV xk),(11,fromv),(13,nilS),(14,ptrV xc)] a'→OGo tag own w own1 wA→own1 xc.1=tag→own1 xm.1=tag→
  WRow wA xc [ptrV p,keyv,.bool false]→(v.md≠3→keyv=nilS)→(v.md=3→ZAk (HA wA xc.1 xm.1) 1 keyv 9 (zAl (keyZ [i])))→rest.wp TZ Q a' wA):(seqsC CSR rest).wp TZ Q a w:=by
 obtain ⟨φ,x3,g,h3,rfl,hO,hg,htr,hrel⟩:=hS
 have h50:=hok.len
 have hL:=swL_len rows.length
 have hA:=mAtW_le (n:=rows.length) (by omega)
 have hA12:=mAtW_ge rows.length
 let f0:Nat→Value:=raF g v i nilS nilS
 have hf0:∀ j,(f0 j).oneCell'=true:=raF_cell hg v i rfl rfl
 let T:Tok:=tokX rows next hok f0 hf0
 have r0:=hrel f0 hf0 (fun j hj=>raF_old hj)
 have tval:∀ j,j<1000→T.val j=f0 j:=fun j hj=>zCx hj
 have t11:T.val 11=.int .i64 v.lo:=(tval 11 (by decide)).trans rfl
 have t12:T.val 12=.int .i64 v.lo:=(tval 12 (by decide)).trans rfl
 have t13:T.val 13=.int .i64 v.hi:=(tval 13 (by decide)).trans rfl
 have t1:T.val 1=g 1:=(tval 1 (by decide)).trans (raF_old (by decide))
 have tkey:∀ j u,(zAl (keyZ [i]))[j]? = some u→T.val (20+j)=u:=fun j u hj=>by
  have hjl:=zAf hj
  have hl:(zAl (keyZ [i])).length=9:=by rw[ZAc,keyZ_len]; rfl
  rw[tval _ (by omega)]; exact raF_key hj
 have hkl:(zAl (keyZ [i])).length=9:=by rw[ZAc,keyZ_len]; rfl
 obtain ⟨φ1,ex1,r1,o1,e1,q3⟩:∃ φ1:Phi,(∀ q x,φ q=some x→φ1 q=some x)∧@Rel T TZ φ1 (zAe 2 0 b00 (swL rows.length (eqL v.md))) w∧OwnAt φ1 (zAe 2 0 b00 (swL rows.length (eqL v.md))) own tag∧@VRel T φ1 (wayEq (mAtW rows.length) v.md) eqv∧
  ((v.md≠3∧eqv=nilS)∨(v.md=3∧∃ xe:Img,φ1 (mAtW rows.length)=some xe∧eqv=.slice (some ⟨xe.1,xe.2.1,none⟩) 1 1∧own xe.1=0∧xe.2.1+3≤xe.2.2∧zAi (zAk w) xe [.int .i64 2,.int .i64 v.lo,.string ByteArray.empty])):=by
  rcases he with ⟨h1,h2⟩|⟨h1,x,h2,h4,h5⟩
  · refine ⟨φ,fun _ _ h=>h,?_,?_,?_,.inl ⟨h1,h2⟩⟩
    · unfold eqL
      rw[zAn,if_neg (fun h=>h1 (beq_true.1 h))]; exact r0
    · unfold eqL
      rw[zAn,if_neg (fun h=>h1 (beq_true.1 h))]; exact hO
    · unfold wayEq
      rw[zAn,if_neg (fun h=>h1 (beq_true.1 h)),h2]
      exact @VRel.nilslice T φ
  · have hxo:=heo x h2
    obtain ⟨φ1,x1,p1,r1,o1⟩:=add_ro (T:=T) (fun _=>rfl) r0 hO (by omega) (cs:=[.int .i64 2,.opq 11,.str []]) h5 (fun φ' _=>@zAa.cons T _ _ _ _ _ (@VRel.int T _ .i64 2) (@zAa.cons T _ _ _ _ _ (by rw[← t11]; exact @VRel.opq T _ 11) (@zAa.cons T _ _ _ _ _ str0X (@zAa.nil T _)))) (fun v hv=>by
     simp only[List.mem_cons,List.not_mem_nil,or_false] at hv
     rcases hv with rfl|rfl|rfl<;>rfl) hxo htag
    rw[hL] at p1
    have hmem:swL rows.length []++[Blk.cells true [.int .i64 2,.opq 11,.str []]]=swL rows.length (eqL v.md):=by
     unfold eqL
     rw[zAn,if_pos (beq_true.2 h1)]
     exact (swL_app rows.length _).symm
    rw[hmem] at r1 o1
    refine ⟨φ1,x1,r1,o1,?_,.inr ⟨h1,x,p1,h2,hxo,h4,h5⟩⟩
    unfold wayEq
    rw[zAn,if_pos (beq_true.2 h1),h2]
    exact @VRel.slice T φ1 (mAtW rows.length) 0 1 1 true 3 x.1 x.2.1 x.2.2 x.2.1 1 p1 (Nat.le_refl _) (Nat.le_refl _) (fun _=>rfl) (fun _=>rfl) (by omega)
 have hK:@zBb T TZ (KR v.md):=kr_ok (T:=T) (i:=i) fun h=>⟨hi,by rw[t11,hlo h],tkey⟩
 have hD:@DrawOk T TZ (KR v.md):=@draw_ok T TZ zBt _ hK
 have hrun:=ra_at (n:=rows.length) (md:=v.md) (by omega) hmd
 unfold raRun at hrun
 split at hrun
 rotate_left
 · cases hrun
 rename_i vs mf hq
 unfold raEnd at hrun
 split at hrun
 rotate_left
 · cases hrun
 rename_i x5 x8 x9 x11 x13 x14
 simp only[Bool.and_eq_true] at hrun
 obtain ⟨⟨⟨hfr,hz1⟩,habs1⟩,⟨h13,hz2⟩,habs2⟩:=hrun
 refine @ZCh TZ T _ hK hD 144 CSR gR _ _ _ _ _ _ hq φ1 w a rest Q r1 ha.is (by decide) (fun q hq=>?_) (fun _ φ2 a2 wA st ha2 hv=>?_) (fun i h=>by cases h) (fun h=>by cases h)
 · unfold raRegs at hq
   simp only[List.mem_cons,List.not_mem_nil,or_false] at hq
   rcases hq with rfl|rfl|rfl
   · refine ⟨(by decide:0<4096),?_⟩
     show @VRel T φ1 (.ptr 3 0) (a.tmps.getD 0 undef)
     rw[ha.get (t:=0) (fun f=>rfl)]
     exact @VRel.ptr T φ1 3 0 x3.1 x3.2.1 x3.2.2 (ex1 _ _ h3)
   · refine ⟨(by decide:1<4096),?_⟩
     show @VRel T φ1 (.int .i64 0) (a.tmps.getD 1 undef)
     rw[ha.get (t:=1) (fun f=>rfl)]
     exact @VRel.int T φ1 .i64 0
   · refine ⟨(by decide:2<4096),?_⟩
     show @VRel T φ1 (.agg (wayL (mAtW rows.length) v.md)) (a.tmps.getD 2 undef)
     rw[ha.get (t:=2) (fun f=>rfl)]
     refine @VRel.agg T φ1 _ _ ?_ (wayL_cell hmd)
     have:=way_rel (T:=T) (φ:=φ1) hmd e1 t12 t13
     simpa using this
 have rl:=@Step.rel T TZ _ _ _ _ _ _ st
 obtain ⟨o2,q2⟩:=ZCw st o1
 have ext:∀ q x,φ1 q=some x→φ2 q=some x:=@Step.ext T TZ _ _ _ _ _ _ st
 have hgsA:=rel_gs rl
 have v5:=ZAr hv (i:=0) (t:=5) rfl rfl
 have v8:=ZAr hv (i:=1) (t:=8) rfl rfl
 have v9:=ZAr hv (i:=2) (t:=9) rfl rfl
 have v11:=ZAr hv (i:=3) (t:=11) rfl rfl
 have v13:=ZAr hv (i:=4) (t:=13) rfl rfl
 have v14:=ZAr hv (i:=5) (t:=14) rfl rfl
 have h13':=@ZAf tok0 2 _ _ h13
 subst h13'
 have e13:=nilE v13
 obtain ⟨rk0,m0⟩:=canonW (hok:=hok) (f:=f0) (f':=f0) (hf:=hf0) (hf':=hf0) (κ:=2) (fun _ _=>rfl) rl habs1
 obtain ⟨rs,ms⟩:=idAbs (T:=T) rfl rl habs2
 obtain ⟨z1,z2,z3⟩:=zip2 hz1
 obtain ⟨y1,y2,y3⟩:=zip2 hz2
 obtain ⟨xw,kw,e5⟩:=ptr_ex (m0 _ _ z1 _ v5)
 obtain ⟨xx,kx,e8⟩:=ptr_ex (m0 _ _ z2 _ v8)
 obtain ⟨xk,kk,e9⟩:=ptr_ex (m0 _ _ z3 _ v9)
 obtain ⟨xw',kw',e5'⟩:=ptr_ex (ms _ _ y1 _ v5)
 obtain ⟨xc,kc,e14⟩:=ptr_ex (ms _ _ y2 _ v14)
 obtain ⟨n0,n1,n2⟩:=roNs_get rows.length (nmOf x5) (nmOf x8) (nmOf x9)
 obtain ⟨s0,s1,s2⟩:=@rsNs_get (mAtW rows.length) v.md (nmOf x5) (nmOf x14) (nmOf x11) (nmOf (zBq mf (nmOf x14) 1))
 have hlenR:=abs_len habs1
 have hrl:=rkL_len rows.length .any .any
 have imgw:φ2 (nmOf x5)=some xw:=by
  have:=ZAo (σ:=mapW 2 rows.length (roNs rows.length (nmOf x5) (nmOf x8) (nmOf x9))) (φ:=φ2) (i:=mAtW rows.length-3) rfl n0
  rw[show 3+(mAtW rows.length-3)=mAtW rows.length by omega,kw] at this
  exact this.symm
 have hxw:xw'=xw:=by
  have:=ZAo (σ:=zAx 2 (rsNs (mAtW rows.length) v.md (nmOf x5) (nmOf x14) (nmOf x11) (nmOf (zBq mf (nmOf x14) 1)))) (φ:=φ2) (i:=0) rfl s0
  rw[show (3+0)=3 from rfl,kw',imgw] at this
  exact Option.some.inj this
 subst hxw
 have imgc:φ2 (nmOf x14)=some xc:=by
  have:=ZAo (σ:=zAx 2 (rsNs (mAtW rows.length) v.md (nmOf x5) (nmOf x14) (nmOf x11) (nmOf (zBq mf (nmOf x14) 1)))) (φ:=φ2) (i:=1) rfl s1
  rw[show (3+1)=4 from rfl,kc] at this
  exact this.symm
 obtain ⟨l0,l1,l2,l3⟩:=@rsL_get v.md
 obtain ⟨cb,hcb,hcw⟩:∃ cs,(rsL v.md)[1]? = some (.cells false cs)∧cs.length=3:=by
  by_cases h:v.md=3
  · exact ⟨_,(l2 h).1,rfl⟩
  · exact ⟨_,l1 h,rfl⟩
 obtain ⟨c2n,c3n,c4n⟩:=abs_at (σ:=zAx 2 _) rfl habs2 hcb s1
 have hwrc:(mf.get (nmOf x14)).wr=true:=(absB_wr c4n).1 rfl
 have hm8:(rkL rows.length .any .any)[5]? = some (.map (entW 13 (natL rows.length 0)) rows.length):=rfl
 have hn8:(roNs rows.length (nmOf x5) (nmOf x8) (nmOf x9))[5]? = some 8:=by
  unfold roNs swNs9
  rw[appNs_app]; rfl
 obtain ⟨d2n,d3n,d4n⟩:=abs_at (σ:=mapW 2 _ _) rfl habs1 hm8 hn8
 have hwrm:(mf.get 8).wr=true:=(absB_wr d4n).1 rfl
 have ismap:∃ es c,mf.get 8=.map es c:=by
  generalize mf.get 8=bl at d4n
  cases bl<;>first|exact ⟨_,_,rfl⟩|(cases d4n; done)
 have k8:zAj (mapW 2 rows.length (roNs rows.length (nmOf x5) (nmOf x8) (nmOf x9))) φ2 8=φ2 8:=ZAo (i:=5) rfl hn8
 have hlenK:2+1+(rkL rows.length .any .any).length≤65536:=by omega
 obtain ⟨xm,km⟩:∃ xm,φ2 8=some xm:=by
  obtain ⟨p1,p2⟩:=zAv (b0:=b00) hlenK hm8
  have hb:=@Rel.blk T TZ _ _ _ rk0 8 p1
  have p2':(zAe 2 0 b00 (rkL rows.length .any .any)).get 8=.map (entW 13 (natL rows.length 0)) rows.length:=p2
  rw[p2'] at hb
  obtain ⟨cb,co,sz,ces,h1,_⟩:=hb
  rw[k8] at h1
  exact ⟨_,h1⟩
 have hownc:extO own w tag xc.1=tag:=o2.wr _ _ _ _ c3n hwrc imgc
 have hownm:extO own w tag xm.1=tag:=o2.wr _ _ _ _ d3n hwrm km
 have apartK:∀ p b o s,p<(zAe 2 0 b00 (rkL rows.length .any .any)).next→((zAe 2 0 b00 (rkL rows.length .any .any)).get p).live=true→zAj (mapW 2 rows.length (roNs rows.length (nmOf x5) (nmOf x8) (nmOf x9))) φ2 p=some (b,o,s)→b≠xc.1∧b<wA.heap.size:=by
  intro p b o s hp hl hφ
  rw[ZBb] at hp
  rw[zAu (by decide) hlenK (by omega)] at hl
  split at hl
  · rename_i hp3
    have hj:p-3<(rkL rows.length .any .any).length:=by omega
    have hj2:p-3<(roNs rows.length (nmOf x5) (nmOf x8) (nmOf x9)).length:=by
     have:(mapW 2 rows.length (roNs rows.length (nmOf x5) (nmOf x8) (nmOf x9))).ns.length=(roNs rows.length (nmOf x5) (nmOf x8) (nmOf x9)).length:=rfl
     omega
    have g1:=List.getElem?_eq_getElem hj
    have g2:=List.getElem?_eq_getElem hj2
    obtain ⟨b2,b3,b4⟩:=abs_at (σ:=mapW 2 _ _) rfl habs1 g1 g2
    rw[show p-(2+1)=p-3 by omega,g1] at hl
    have hlv:=ZCf b4 hl
    have hi':=ZAo (σ:=mapW 2 rows.length (roNs rows.length (nmOf x5) (nmOf x8) (nmOf x9))) (φ:=φ2) (i:=p-3) rfl g2
    rw[show 3+(p-3)=p by omega,hφ] at hi'
    have hne:=freshN_mem hfr (List.getElem_mem hj2)
    refine ⟨(img_ne rl hne c3n b3 hwrc hlv imgc hi'.symm).symm,@Rel.heap T TZ _ _ _ rl _ _ _ _ hi'.symm (by rw[ZAa]; omega)⟩
  · split at hl
    · rename_i hp0
      subst hp0
      have hφ0:φ2 0=some (b,o,s):=by
       unfold zAj at hφ
       split at hφ
       · exact hφ
       · cases hφ
      obtain ⟨sz,hgz⟩:=@Rel.glob T TZ _ _ _ rl 0 (by rw[ZAa]; decide)
      have hl0:(mf.get 0).live=true:=by
       have:=habs1
       unfold zAp at this
       simp only[Bool.and_eq_true] at this
       exact ZCf this.1.2.2 rfl
      have hbd:=@Rel.dom T TZ _ _ _ rl 0 _ hgz
      refine ⟨(img_ne rl (by omega:nmOf x14≠0) c3n hbd hwrc hl0 imgc hφ0).symm,?_⟩
      rw[hgz] at hφ0
      cases hφ0
      omega
    · cases hl
 have hcm:xc.1≠xm.1:=by
  have hne:nmOf x14≠8:=fun e=>by
   have:=freshN_mem hfr (List.mem_of_getElem? hn8)
   exact this e
  exact img_ne rl hne c3n d3n hwrc (Blk.live_of_wr hwrm) imgc km
 have h7:(rkL rows.length .any .any)[4]? = some (.cells true [.any,.slice 10 0 2 2 false 1,.bool false,.any,.any,.any,.any,.any]):=rfl
 obtain ⟨p71,p72⟩:=zAv (b0:=b00) hlenK h7
 obtain ⟨x7,us7,i7,c7,r7⟩:=ZBd (P:=TZ) zBu rk0 p71 p72
 obtain ⟨u1,u2,u3,u4,u5,u6,u7,u8,rfl,a1,a2',a3,a4,a5,a6,a7,a8⟩:∃ u1 u2 u3 u4 u5 u6 u7 u8,us7=[u1,u2,u3,u4,u5,u6,u7,u8]∧u1.oneCell'=true∧@VRel T (zAj (mapW 2 rows.length (roNs rows.length (nmOf x5) (nmOf x8) (nmOf x9))) φ2) (.slice 10 0 2 2 false 1) u2∧u3=.bool false∧u4.oneCell'=true∧u5.oneCell'=true∧u6.oneCell'=true∧u7.oneCell'=true∧u8.oneCell'=true:=by
  have an:∀ {φ:Phi} {c:Value},@VRel T φ .any c→c.oneCell'=true:=fun h=>by cases h; assumption
  cases r7 with
  |cons b1 r7=>
  cases r7 with
  |cons b2 r7=>
  cases r7 with
  |cons b3 r7=>
  cases r7 with
  |cons b4 r7=>
  cases r7 with
  |cons b5 r7=>
  cases r7 with
  |cons b6 r7=>
  cases r7 with
  |cons b7 r7=>
  cases r7 with
  |cons b8 r7=>
  cases r7
  exact ⟨_,_,_,_,_,_,_,_,rfl,an b1,b2,by cases b3; rfl,an b4,an b5,an b6,an b7,an b8⟩
 subst a3
 let f1:Nat→Value:=raF g v i u1 u4
 have hf1:∀ j,(f1 j).oneCell'=true:=raF_cell hg v i a1 a4
 have f01:∀ j,j≤2→f1 j=f0 j:=fun j hj=>(raF_old hj).trans (raF_old hj).symm
 obtain ⟨rk1,m1⟩:=canonW (hok:=hok) (f:=f0) (f':=f1) (hf:=hf0) (hf':=hf1) (κ:=2) f01 rl habs1
 let T1:Tok:=tokX rows next hok f1 hf1
 have w30:T1.val 30=u1:=by show valF f1 rows 30=u1; rw[zCx (by decide)]; rfl
 have w31:T1.val 31=u4:=by show valF f1 rows 31=u4; rw[zCx (by decide)]; rfl
 have a2r:@VRel T1 (zAj (mapW 2 rows.length (roNs rows.length (nmOf x5) (nmOf x8) (nmOf x9))) φ2) (.slice 10 0 2 2 false 1) u2:=by
  cases a2' with
  |slice _ _ _ _ _ _ cb co sz o' cap' q1 q2 q3 q4 q5 q6=>exact @VRel.slice T1 _ _ _ _ _ _ _ cb co sz o' cap' q1 q2 q3 q4 q5 q6
 have rk2:=retok (T:=T1) rk1 (by omega) h7 (x:=x7) i7 c7 (cs':=[.opq 30,.slice 10 0 2 2 false 1,.bool false,.opq 31,.any,.any,.any,.any])
  (@zAa.cons T1 _ _ _ _ _ (by rw[← w30]; exact @VRel.opq T1 _ 30) (@zAa.cons T1 _ _ _ _ _ a2r (@zAa.cons T1 _ _ _ _ _ (@VRel.bool T1 _ false) (@zAa.cons T1 _ _ _ _ _ (by rw[← w31]; exact @VRel.opq T1 _ 31) (@zAa.cons T1 _ _ _ _ _ (@VRel.any T1 _ u5 a5) (@zAa.cons T1 _ _ _ _ _ (@VRel.any T1 _ u6 a6) (@zAa.cons T1 _ _ _ _ _ (@VRel.any T1 _ u7 a7) (@zAa.cons T1 _ _ _ _ _ (@VRel.any T1 _ u8 a8) (@zAa.nil T1 _)))))))))
  (fun v hv=>by
   simp only[List.mem_cons,List.not_mem_nil,or_false] at hv
   rcases hv with rfl|rfl|rfl|rfl|rfl|rfl|rfl|rfl<;>rfl)
 rw[rkL_set] at rk2
 have hRK:RK rows next hok f1 hf1 wA xc xm xw' xx xk wA:=by
  refine ⟨_,rk2,by rw[k8]; exact km,kw,kx,kk,fun p b o s hp hl hφ=>apartK p b o s ?_ ?_ hφ⟩
  · rw[ZBb] at hp ⊢
    exact hp
  · have hp':p<65536:=by rw[ZBb,rkL_len] at hp; omega
    have hlenK2:2+1+(rkL rows.length (.opq 30) (.opq 31)).length≤65536:=by have:=rkL_len rows.length (.opq 30) (.opq 31); omega
    have hll:(rkL rows.length (.opq 30) (.opq 31)).length=(rkL rows.length .any .any).length:=rfl
    rw[zAu (by decide) hlenK2 hp'] at hl
    rw[zAu (by decide) hlenK hp']
    rw[hll] at hl
    split
    · rename_i hh
      rw[if_pos hh] at hl
      by_cases e:p-(2+1)=4
      · rw[e,h7]; rfl
      · rw[← rkL_set,List.getElem?_set_ne (Ne.symm e)] at hl
        exact hl
    · rename_i hh
      rw[if_neg hh] at hl
      exact hl
 obtain ⟨H0,p,root,sg,b1,b2,b3,b4,b5⟩:=(htr 0 (by decide)).go htag q2
 have b3':g 1=ptrV p:=b3
 have b5':zBf true rows H0 root sg:=b5
 have hup:∀ b o,H0 b=some o→HA wA xc.1 xm.1 b=some o:=fun b o hb=>by
  have h0:=b2 b o hb
  unfold HA
  rw[if_neg (by
   rintro (e|e)
   · rw[e,hownc] at h0; exact htag h0
   · rw[e,hownm] at h0; exact htag h0)]
  exact b1 b o hb
 have hlenS:2+1+(rsL v.md).length≤65536:=by omega
 have small:∀ {j nn:Nat} {cs:List AVal},(rsL v.md)[j]? = some (.cells true cs)→(rsNs (mAtW rows.length) v.md (nmOf x5) (nmOf x14) (nmOf x11) (nmOf (zBq mf (nmOf x14) 1)))[j]? = some nn→j≠1→∃ y us,zAj (zAx 2 (rsNs (mAtW rows.length) v.md (nmOf x5) (nmOf x14) (nmOf x11) (nmOf (zBq mf (nmOf x14) 1)))) φ2 (3+j)=some y∧zAi (HA wA xc.1 xm.1) y us∧@zAa T (zAj (zAx 2 (rsNs (mAtW rows.length) v.md (nmOf x5) (nmOf x14) (nmOf x11) (nmOf (zBq mf (nmOf x14) 1)))) φ2) cs us:=by
  intro j nn cs hj hjn hj1
  obtain ⟨g1,g2⟩:=zAv (b0:=b00) hlenS hj
  obtain ⟨y,us,f1',f2',f3'⟩:=ZBd (P:=TZ) zBu rs g1 g2
  obtain ⟨w2,w3,w4⟩:=abs_at (σ:=zAx 2 _) rfl habs2 hj hjn
  have hi':=ZAo (σ:=zAx 2 (rsNs (mAtW rows.length) v.md (nmOf x5) (nmOf x14) (nmOf x11) (nmOf (zBq mf (nmOf x14) 1)))) (φ:=φ2) (i:=j) rfl hjn
  rw[f1'] at hi'
  have hlv:=ZCf w4 rfl
  have hnc:nmOf x14≠nn:=fun e=>by
   have hnd:(rsNs (mAtW rows.length) v.md (nmOf x5) (nmOf x14) (nmOf x11) (nmOf (zBq mf (nmOf x14) 1))).Nodup:=by
    have:=habs2
    unfold zAp at this
    simp only[Bool.and_eq_true] at this
    exact nodupN_ok this.2.1
   rw[← e] at hjn
   have hj0:=zAf hjn
   have h10:=zAf s1
   have:=(List.getElem_inj (h₀:=hj0) (h₁:=h10) hnd).1 (by
    rw[List.getElem?_eq_getElem hj0] at hjn
    have s1':=s1
    rw[List.getElem?_eq_getElem h10] at s1'
    rw[Option.some.inj hjn,Option.some.inj s1'])
   exact hj1 this
  have hn8':(8:Nat)≠nn:=fun e=>by
   obtain ⟨es,c,hmap⟩:=ismap
   rw[← e,hmap] at w4
   cases w4
  exact ⟨y,us,f1',f2'.ha (img_ne rl hnc c3n w3 hwrc hlv imgc hi'.symm).symm (img_ne rl hn8' d3n w3 hwrm hlv km hi'.symm).symm,f3'⟩
 have oq9:∀ {us:List Value} {φ':Phi},@zAa T φ' (oqs 9 20) us→us=zAl (keyZ [i]):=fun h=>oqs_un (T:=T) (n:=9) (a:=20) hkl tkey h
 obtain ⟨yw,usw,iw,cw,rw'⟩:=small l0 s0 (by decide)
 have hyw:yw=xw':=by
  rw[show (3+0)=3 from rfl,kw'] at iw
  exact (Option.some.inj iw).symm
 subst hyw
 obtain ⟨u,hu,hue⟩:=way_un (T:=T) hmd t12 t13 rw'
 have hueq:u=eqv:=by
  rcases q3 with ⟨h1,h2⟩|⟨h1,xe,hx1,hx2,_⟩
  · unfold wayEq at hue
    rw[zAn,if_neg (fun h=>h1 (beq_true.1 h))] at hue
    rw[h2]; exact nilE hue
  · unfold wayEq at hue
    rw[zAn,if_pos (beq_true.2 h1)] at hue
    have hi5:=ZAo (σ:=zAx 2 (rsNs (mAtW rows.length) v.md (nmOf x5) (nmOf x14) (nmOf x11) (nmOf (zBq mf (nmOf x14) 1)))) (φ:=φ2) (i:=2) rfl (s2 h1).1
    rw[ext _ _ hx1] at hi5
    rw[hx2]
    exact slice_isX (by decide) hue hi5
 subst hueq
 subst hu
 have heqA:EqAt (HA wA xc.1 xm.1) v u:=by
  rcases q3 with ⟨h1,h2⟩|⟨h1,xe,hx1,hx2,hx3,hx4,hx5⟩
  · exact .inl ⟨h1,h2⟩
  · refine .inr ⟨h1,xe,hx2,hx4,?_⟩
    have hlt:xe.1<w.heap.size:=hx5.lt (fun b o h=>h)
    have ho:extO own w tag xe.1=0:=by rw[extO_lt hlt]; exact hx3
    refine zAi.ha (hx5.at_ (q2.1.1 xe.1 hlt (by rw[hx3]; exact htag.symm))) (fun e=>?_) (fun e=>?_)
    · rw[e,hownc] at ho; exact htag ho
    · rw[e,hownm] at ho; exact htag ho
 obtain ⟨gc1,gc2⟩:=zAv (b0:=b00) hlenS hcb
 obtain ⟨yc,usc,ic,cc,rc⟩:=WRow.of (T:=T) rs gc1 gc2
 have hyc:yc=xc:=by
  rw[show (3+1)=4 from rfl,kc] at ic
  exact (Option.some.inj ic).symm
 subst hyc
 have hctx:∀ fromv:Value,(v.md≠3→fromv=nilS)→(v.md=3→ZAk (HA wA yc.1 xm.1) 1 fromv 9 (zAl (keyZ [i])))→RCtx rows next hok f1 hf1 v u i wA yc xm yw xx xk p root sg fromv:=fun fromv hf3 hf4=>
  ⟨hRK,hgsA,hcm,cc.lt,@Rel.heap T TZ _ _ _ rl _ _ _ _ km (by rw[ZAa]; decide),hmd,hi,hlo,b4.mono hup,b5'.mono hup,cw,heqA,hf3,hf4,by
   show (raF g v i u1 u4 30).oneCell'=true∧(raF g v i u1 u4 31).oneCell'=true
   exact ⟨a1,a4⟩⟩
 have regs:∀ fromv:Value,a2.tmps.getD 11 undef=fromv→zAr 144 [(5,ptrV yw),(8,ptrV xx),(9,ptrV xk),(11,fromv),(13,nilS),(14,ptrV yc)] a2:=fun fromv h11=>⟨ha2,fun q hq=>by
  simp only[List.mem_cons,List.not_mem_nil,or_false] at hq
  rcases hq with rfl|rfl|rfl|rfl|rfl|rfl
  · exact e5
  · exact e8
  · exact e9
  · exact h11
  · exact e13
  · exact e14⟩
 by_cases h3m:v.md=3
 ·
  obtain ⟨l21,l23,l24⟩:=l2 h3m
  obtain ⟨s22,s23,s24⟩:=s2 h3m
  obtain ⟨yf,usf,if1,cf1,rf1⟩:=small l23 s23 (by decide)
  obtain ⟨yk,usk,ik1,ck1,rk1'⟩:=small l24 s24 (by decide)
  have ef:=oq9 rf1
  have ek:=oq9 rk1'
  subst ef
  subst ek
  have v11':=ms _ _ y3 _ v11
  have hfa:fromA v.md=.slice 6 0 9 9 false 1:=by unfold fromA; rw[zAn,if_pos (beq_true.2 h3m)]
  rw[hfa] at v11'
  have hrow:=rowFrom (by decide:0<9) v11' if1 cf1 (by rw[hkl])
  have hcb':cb=[.opq 1,.slice 7 0 9 9 false 1,.bool false]:=by
   rw[l21] at hcb
   injection hcb with hcb
   injection hcb with _ hcb
   exact hcb.symm
  subst hcb'
  cases rc with
  | @cons _ k1 _ _ rc1 rc=>
  cases rc with
  | @cons _ k2 _ _ rc2 rc=>
  cases rc with
  | @cons _ k3 _ _ rc3 rc=>
  cases rc
  cases rc3
  have ek1:=ZAw rc1
  rw[t1,b3'] at ek1
  subst ek1
  exact hn a2 wA _ f1 hf1 yc xm yw xx xk p root sg _ k2 (hctx _ (fun h=>absurd h3m h) (fun _=>hrow)) (regs _ rfl) q2 hownc hownm cc (fun h=>absurd h3m h) (fun _=>rowFrom (by decide:0<9) rc2 ik1 ck1 (by rw[hkl]))
 ·
  have v11':=ms _ _ y3 _ v11
  have hfa:fromA v.md=.nilslice:=by unfold fromA; rw[zAn,if_neg (fun h=>h3m (beq_true.1 h))]
  rw[hfa] at v11'
  have e11:=nilE v11'
  have hcb':cb=[.opq 1,.nilslice,.bool false]:=by
   rw[l1 h3m] at hcb
   injection hcb with hcb
   injection hcb with _ hcb
   exact hcb.symm
  subst hcb'
  cases rc with
  | @cons _ k1 _ _ rc1 rc=>
  cases rc with
  | @cons _ k2 _ _ rc2 rc=>
  cases rc with
  | @cons _ k3 _ _ rc3 rc=>
  cases rc
  cases rc3
  have ek1:=ZAw rc1
  rw[t1,b3'] at ek1
  subst ek1
  have ek2:=nilE rc2
  exact hn a2 wA _ f1 hf1 yc xm yw xx xk p root sg _ k2 (hctx _ (fun _=>rfl) (fun h=>absurd h h3m)) (regs _ e11) q2 hownc hownm cc (fun _=>ek2) (fun h=>absurd h h3m)
end
end Go.AM
namespace Go.AM
open Go.Proofs
theorem natL_get:∀ {n k i:Nat},i<n→(natL n k)[i]? = some (k+i)
 |n+1,k,0,_=>rfl
 |n+1,k,i+1,h=>by
  show (_::natL n (k+1))[i+1]? = _
  rw[List.getElem?_cons_succ,natL_get (n:=n) (by omega),show k+1+i=k+(i+1) by omega]
theorem rkAll_get {n i:Nat} (h:3+i<mAtW n+3):(ZCk n)[i]? = some (3+i):=by
 unfold ZCk
 refine natL_get ?_
 show i<(mAtW n+3)-3
 omega
theorem rkSelf:((List.range 51).all fun n=>zAp (mapW 40 n (ZCk n)) 0 b00 (rkL n (.opq 30) (.opq 31)) (zAe 2 0 b00 (rkL n (.opq 30) (.opq 31))))=true:=by kernel_rfl
theorem chkL_mono {σ:Map} {m m':Mem} (hn:m.next≤m'.next) (hg:∀ p,p<m.next→m'.get p=m.get p):∀ {l:List Blk} {ns:List Nat},chkL σ m l ns=true→chkL σ m' l ns=true
 | [],[],_=>rfl
 | [],_::_,h=>by cases h
 |_::_,[],h=>by cases h
 |b::l,n::ns,h=>by
  have h':zAc (chkL σ m l ns) false (and (and (Nat.ble (Nat.succ σ.G) n) (Nat.ble (Nat.succ n) m.next)) (absB σ b (m.get n)))=true:=h
  rw[zAn] at h'
  split at h'
  rotate_left
  · cases h'
  rename_i h1
  simp only[Bool.and_eq_true,zAd] at h1
  show zAc (chkL σ m' l ns) false (and (and (Nat.ble (Nat.succ σ.G) n) (Nat.ble (Nat.succ n) m'.next)) (absB σ b (m'.get n)))=true
  rw[zAn,if_pos]
  · exact chkL_mono hn hg h'
  · simp only[Bool.and_eq_true,zAd]
    refine ⟨⟨h1.1.1,by omega⟩,?_⟩
    rw[hg n (by omega)]; exact h1.2
theorem absMem_mono {σ:Map} {b0:Blk} {l:List Blk} {m m':Mem} (hn:m.next≤m'.next) (hg:∀ p,p<m.next→m'.get p=m.get p) (h0:0<m.next) (h:zAp σ 0 b0 l m=true):zAp σ 0 b0 l m'=true:=by
 unfold zAp at h ⊢
 simp only[Bool.and_eq_true] at h ⊢
 obtain ⟨⟨h1,h2,h3⟩,h4,h5⟩:=h
 exact ⟨⟨h1,h2,by rw[hg 0 h0]; exact h3⟩,h4,chkL_mono hn hg h5⟩
theorem snoc_get {L:List Blk} {b:Blk} (hl:3+L.length<65536) {p:Nat} (hp:p<3+L.length):(zAe 2 0 b00 (L++[b])).get p=(zAe 2 0 b00 L).get p:=by
 have e:=mkMem_snoc b00 L b
 have hx:=ZBb L
 rw[e]
 have:(⟨(zAe 2 0 b00 L).next+1,putT (zAe 2 0 b00 L).next b (zAe 2 0 b00 L).t⟩:Mem).get p=if p=(zAe 2 0 b00 L).next then b else (zAe 2 0 b00 L).get p:=ZBw _ p _ _ (by omega) (by omega)
 rw[this,if_neg (by omega)]
theorem lk_at {n j:Nat} (hn:n≤50) (hj:j<n):lkRun TZ K0 PreR n j=true∧cvRun TZ K0 OR21 n j=true:=by
 have h:=zBw (lkC_all n (by omega) (j / 8) (by omega)) (j % 8) (by omega)
 have e:Nat.add (Nat.mul 8 (j / 8)) (j % 8)=j:=by show 8*(j / 8)+j % 8=j; omega
 rw[e,Bool.or_eq_true] at h
 rcases h with h|h
 · rw[zAd] at h; omega
 · unfold lkAt at h
   rwa [Bool.and_eq_true] at h
theorem preR_at:∀ i,i<10→PreR[i]? = OR19[i]?:=fun i hi=>by
 unfold PreR
 rw[List.getElem?_toArray,takeL_eq,List.getElem?_take,if_pos hi,Array.getElem?_toList]
theorem gPreR:PreR.toList.all (ZBo TZ.globals.size)=true:=by kernel_rfl
theorem gR21a:(zBl 5 (ZAe 2 OR21.toList)).all (ZBo TZ.globals.size)=true:=by kernel_rfl
theorem gR21b:(ZAe 7 OR21.toList).all (ZBo TZ.globals.size)=true:=by kernel_rfl
theorem lR21a:(zBl 5 (ZAe 2 OR21.toList)).length=5:=by kernel_rfl
theorem lR21b:(ZAe 7 OR21.toList).length=4:=by kernel_rfl
theorem tR21a:(OR21.toList.drop 2).take (zBl 5 (ZAe 2 OR21.toList)).length=zBl 5 (ZAe 2 OR21.toList):=by kernel_rfl
theorem tR21b:(OR21.toList.drop 7).take (ZAe 7 OR21.toList).length=ZAe 7 OR21.toList:=by kernel_rfl
theorem sR:OR14.size=9∧OR15.size=18∧OR16.size=9∧OR17.size=2∧OR19.size=16∧OR20.size=3∧OR21.size=11∧OR22.size=2∧OR23.size=3:=⟨by kernel_rfl,by kernel_rfl,by kernel_rfl,by kernel_rfl,by kernel_rfl,by kernel_rfl,by kernel_rfl,by kernel_rfl,by kernel_rfl⟩
section
variable {rows:List RowW} {next:Nat} {hok:ZBp rows next} {f:Nat→Value} {hf:∀ j,(f j).oneCell'=true} {wA:World} {xc xm xw xx xk:Img}
theorem rkO_len (n:Nat):3+(rkL n (.opq 30) (.opq 31)).length=mAtW n+3:=rkL_len n _ _
theorem rk_wr {n:Nat} (hn:n≤50) {p:Nat} (hp:p<(zAe 2 0 b00 (rkL n (.opq 30) (.opq 31))).next) (hw:((zAe 2 0 b00 (rkL n (.opq 30) (.opq 31))).get p).wr=true):p=8:=by
 have hlen:=rkO_len n
 have hA:=mAtW_le (n:=n) (by omega)
 rw[ZBb] at hp
 rw[zAu (by decide) (by omega) (by omega)] at hw
 split at hw
 · rename_i h
   have hro:∀ (l:List Blk) (j:Nat) (b:Blk),(∀ b,b∈l→b.wr=false)→l[j]? = some b→b.wr=false:=fun l j b h1 h2=>h1 b (List.mem_of_getElem? h2)
   have key:∀ (j:Nat),j≠5→(((rkL n (.opq 30) (.opq 31))[j]?).getD .none).wr=false:=by
    intro j hj
    have htail:∀ b,b∈rkTail n [boxW,boxX,boxK]→b.wr=false:=by
     intro b hb
     have hv:∀ (l:List Nat) (b:Blk),b∈valsWL l→b.wr=false:=by
      intro l
      induction l with
      |nil=>intro b hb; cases hb
      |cons x l ih=>
       intro b hb
       rcases List.mem_cons.1 hb with rfl|hb
       · rfl
       · exact ih b hb
     unfold rkTail at hb
     cases n with
     |zero=>
      simp only[List.mem_cons,List.not_mem_nil,or_false] at hb
      rcases hb with rfl|rfl|rfl<;>rfl
     |succ k=>
      rcases List.mem_cons.1 hb with rfl|hb
      · rfl
      · rw[ZBm] at hb
        rcases List.mem_append.1 hb with hb|hb
        · exact hv _ b hb
        · simp only[List.mem_cons,List.not_mem_nil,or_false] at hb
          rcases hb with rfl|rfl|rfl<;>rfl
    match j,hj with
    |0,_=>rfl
    |1,_=>rfl
    |2,_=>rfl
    |3,_=>rfl
    |4,_=>rfl
    |5,h=>exact absurd rfl h
    |6,_=>rfl
    |7,_=>rfl
    |8,_=>rfl
    |j+9,_=>
     show (((rkTail n [boxW,boxX,boxK])[j]?).getD .none).wr=false
     cases hq:(rkTail n [boxW,boxX,boxK])[j]? with
     |none=>rfl
     |some b=>exact htail b (List.mem_of_getElem? hq)
   by_cases h5:p-(2+1)=5
   · omega
   · rw[key _ h5] at hw; cases hw
 · split at hw
   · cases hw
   · cases hw
theorem rk_left {T:Tok} {n:Nat} (hn:n≤50) {φ φ':Phi} {m':Mem} {w w':World} (h8:φ 8=some xm) (hst:@Step T TZ φ (zAe 2 0 b00 (rkL n (.opq 30) (.opq 31))) w φ' m' w'):zBk xm.1 w w':=
 leftX_of hst fun q b o s hq hw hφ=>by
  have:=rk_wr hn hq hw
  subst this
  rw[h8] at hφ
  cases hφ; rfl
theorem rk_again {φ φ':Phi} {m':Mem} {w w':World} (h0:∀ p b o s,p<(zAe 2 0 b00 (rkL rows.length (.opq 30) (.opq 31))).next→((zAe 2 0 b00 (rkL rows.length (.opq 30) (.opq 31))).get p).live=true→φ p=some (b,o,s)→b≠xc.1∧b<wA.heap.size)
 (hr:@Rel (tokX rows next hok f hf) TZ φ (zAe 2 0 b00 (rkL rows.length (.opq 30) (.opq 31))) w) (hx:∀ q x,φ q=some x→φ' q=some x) (h8:φ 8=some xm) (hw:φ (mAtW rows.length)=some xw) (hxx:φ (Nat.add (mAtW rows.length) 1)=some xx) (hxk:φ (Nat.add (mAtW rows.length) 2)=some xk)
 (hr':@Rel (tokX rows next hok f hf) TZ φ' m' w') (habs:zAp (mapW 40 rows.length (ZCk rows.length)) 0 b00 (rkL rows.length (.opq 30) (.opq 31)) m'=true) :
 RK rows next hok f hf wA xc xm xw xx xk w'∧(∀ t s,absN (mapW 40 rows.length (ZCk rows.length)) 4 t s=true→∀ c,@VRel (tokX rows next hok f hf) φ' s c→@VRel (tokX rows next hok f hf) (zAj (mapW 40 rows.length (ZCk rows.length)) φ') t c)∧
  @Rel (tokX rows next hok f hf) TZ (zAj (mapW 40 rows.length (ZCk rows.length)) φ') (zAe 2 0 b00 (rkL rows.length (.opq 30) (.opq 31))) w'∧∀ i,3+i<mAtW rows.length+3→zAj (mapW 40 rows.length (ZCk rows.length)) φ' (3+i)=φ' (3+i):=by
 obtain ⟨c1,c2⟩:=canonW (hok:=hok) (f:=f) (f':=f) (hf:=hf) (hf':=hf) (κ:=40) (fun _ _=>rfl) hr' habs
 have hat:∀ i,3+i<mAtW rows.length+3→zAj (mapW 40 rows.length (ZCk rows.length)) φ' (3+i)=φ' (3+i):=fun i hi=>ZAo (i:=i) rfl (rkAll_get hi)
 have hA:=mAtW_ge rows.length
 have at':∀ p,3≤p→p<mAtW rows.length+3→zAj (mapW 40 rows.length (ZCk rows.length)) φ' p=φ' p:=fun p h1 h2=>by
  have:=hat (p-3) (by omega)
  rwa [show 3+(p-3)=p by omega] at this
 have hlen:=rkO_len rows.length
 have h50:=hok.len
 have hAle:=mAtW_le (n:=rows.length) (by omega)
 refine ⟨⟨_,c1,?_,?_,?_,?_,fun p b o s hp hl hφ=>?_⟩,c2,c1,hat⟩
 · rw[at' 8 (by decide) (by omega)]; exact hx _ _ h8
 · rw[at' _ (by omega) (by omega)]; exact hx _ _ hw
 · have e:Nat.add (mAtW rows.length) 1=mAtW rows.length+1:=rfl
   rw[e] at hxx ⊢
   rw[at' _ (by omega) (by omega)]; exact hx _ _ hxx
 · have e:Nat.add (mAtW rows.length) 2=mAtW rows.length+2:=rfl
   rw[e] at hxk ⊢
   rw[at' _ (by omega) (by omega)]; exact hx _ _ hxk
 · have hpn:=hp
   rw[ZBb] at hp
   have himg:∃ y,φ p=some y:=by
    have hb:=@Rel.blk (tokX rows next hok f hf) TZ _ _ _ hr p hpn
    generalize (zAe 2 0 b00 (rkL rows.length (.opq 30) (.opq 31))).get p=bl at hb hl
    cases bl with
    |none=>cases hl
    |cells ro cs=>obtain ⟨cb,co,c,el,fz,q,_⟩:=hb; exact ⟨_,q⟩
    |map es c=>obtain ⟨cb,co,sz,ces,q,_⟩:=hb; exact ⟨_,q⟩
    |iter s q=>obtain ⟨cb,sz,t,q,_⟩:=hb; exact ⟨_,q⟩
   obtain ⟨y,hy⟩:=himg
   have hy':=hx _ _ hy
   have:φ' p=some (b,o,s):=by
    rcases Nat.lt_or_ge p 3 with h3|h3
    · unfold zAj at hφ
      split at hφ
      · have hnm:(mapW 40 rows.length (ZCk rows.length)).nm p=p:=by
         match p,h3 with
         |0,_=>rfl
         |1,_=>rfl
         |2,_=>rfl
        rw[hnm] at hφ; exact hφ
      · cases hφ
    · rw[at' p h3 (by omega)] at hφ; exact hφ
   rw[hy'] at this
   cases this
   exact h0 p b o s hpn hl hy
theorem zip2' {σ:Map} {a1 a2 b1 b2:AVal} (h:zipB (absN σ 4) [a1,a2] [b1,b2]=true):absN σ 4 a1 b1=true∧absN σ 4 a2 b2=true:=by
 have h':zAc (zAc true false (absN σ 4 a2 b2)) false (absN σ 4 a1 b1)=true:=h
 rw[zAn,zAn] at h'
 split at h'
 · rename_i q1
   split at h'
   · rename_i q2; exact ⟨q1,q2⟩
   · cases h'
 · cases h'
theorem vals_j {n j:Nat} (hj:j<n) (x y:AVal):(rkL n x y)[10+j]? = some (.cells true (valW j)):=by
 unfold rkL rkTail
 cases n with
 |zero=>omega
 |succ k=>
  show (_::_::_::_::_::_::_::_::_::_::ZCa (valsWL (natL (k+1) 0)) [boxW,boxX,boxK])[10+j]? = _
  rw[ZBm,show 10+j=j+10 by omega]
  simp only[List.getElem?_cons_succ]
  rw[List.getElem?_append_left (by rw[valsWL_len]; omega),valsWL_get (k+1) 0 j (by omega),Nat.zero_add]
end
end Go.AM
namespace Go.AM
open Go.Proofs
theorem lh19:Array.replicate 10 true++Array.replicate (16-10) false=LHf OR19 10:=by kernel_rfl
section
variable {rows:List RowW} {next:Nat} {hok:ZBp rows next} {f:Nat→Value} {hf:∀ j,(f j).oneCell'=true} {wA:World} {xc xm xw xx xk:Img}
theorem lk_regs {φ:Phi} {a:Act} {L:List (Nat×Value)} {j:Nat} {r:RowW} (hj:rows[j]? = some r) (hw:φ (mAtW rows.length)=some xw) (hxx:φ (Nat.add (mAtW rows.length) 1)=some xx) (hxk:φ (Nat.add (mAtW rows.length) 2)=some xk) (ha:zAr 144 L a)
 (h5:∀ g,setL L g 5=ptrV xw) (h8:∀ g,setL L g 8=ptrV xx) (h9:∀ g,setL L g 9=ptrV xk) (h18:∀ g,setL L g 18=.int .u64 (r.id:Int)):∀ p,p∈lkRegs rows.length j→p.1<4096∧@VRel (tokX rows next hok f hf) φ p.2 (a.tmps.getD p.1 undef):=fun p hp=>by
 unfold lkRegs at hp
 simp only[List.mem_cons,List.not_mem_nil,or_false] at hp
 have hjl:=zAf hj
 rcases hp with rfl|rfl|rfl|rfl
 · refine ⟨(by decide:5<4096),?_⟩
   show @VRel (tokX rows next hok f hf) φ _ (a.tmps.getD 5 undef)
   rw[ha.get h5]
   exact @VRel.ptr (tokX rows next hok f hf) φ _ 0 xw.1 xw.2.1 xw.2.2 hw
 · refine ⟨(by decide:8<4096),?_⟩
   show @VRel (tokX rows next hok f hf) φ _ (a.tmps.getD 8 undef)
   rw[ha.get h8]
   exact @VRel.ptr (tokX rows next hok f hf) φ _ 0 xx.1 xx.2.1 xx.2.2 hxx
 · refine ⟨(by decide:9<4096),?_⟩
   show @VRel (tokX rows next hok f hf) φ _ (a.tmps.getD 9 undef)
   rw[ha.get h9]
   exact @VRel.ptr (tokX rows next hok f hf) φ _ 0 xk.1 xk.2.1 xk.2.2 hxk
 · refine ⟨(by decide:18<4096),?_⟩
   show @VRel (tokX rows next hok f hf) φ _ (a.tmps.getD 18 undef)
   rw[ha.get h18]
   have e:Value.int .u64 (r.id:Int)=.int .u64 (@Tok.num (tokX rows next hok f hf) j):=by
    show _=Value.int .u64 (idAt rows j:Int)
    rw[idAt_of hj]
   rw[e]
   exact @VRel.sym (tokX rows next hok f hf) φ .u64 j hjl
attribute [local irreducible] OR19 PreR in
theorem look19 {w:World} (hRK:RK rows next hok f hf wA xc xm xw xx xk w) (hname:(f 30).oneCell'=true∧(f 31).oneCell'=true) {j:Nat} {r:RowW} (hj:rows[j]? = some r) {a:Act} {L:List (Nat×Value)} (ha:zAr 144 L a)
 (h5:∀ g,setL L g 5=ptrV xw) (h8:∀ g,setL L g 8=ptrV xx) (h9:∀ g,setL L g 9=ptrV xk) (h18:∀ g,setL L g 18=.int .u64 (r.id:Int)) (hk:(L.all fun p=>keptR PreR.toList p.1)=true) (hsub:∀ g,(L.map fun p=>setL L g p.1)=L.map Prod.snd) {Q:Exit→Act→World→Prop}
 (hn:∀ a' w' n colsv pr vv,n.oneCell'=true→pr.oneCell'=true→ZAk (zAk w') 1 colsv 2 [.int .i64 0,.int .i64 1]→ZAk (zAk w') 3 vv 2 (zBn r)→RK rows next hok f hf wA xc xm xw xx xk w'→zBk xm.1 w w'→zAr 144 L a'→a'.tmps.getD 120 undef=.agg #[n,colsv,.bool false,pr]→a'.tmps.getD 124 undef=vv→
  wpAny TZ .any OR19 Q 6 (LHf OR19 10) a' w'):(Code.region 19 OR19 true).wp TZ Q a w:=by
 obtain ⟨φ,h1,h2,h3,h4,h6,h7⟩:=hRK
 have h50:=hok.len
 have hjl:=zAf hj
 obtain ⟨hlk,_⟩:=lk_at h50 hjl
 let T:Tok:=tokX rows next hok f hf
 unfold lkRun at hlk
 split at hlk
 rotate_left
 · cases hlk
 rename_i vs mf hq
 rw[Bool.and_eq_true] at hlk
 obtain ⟨hz,habs⟩:=hlk
 refine region_cutL zBt (T:=T) (@ZBt T) cutR preR_at gPreR hq h1 (by decide) ha (lk_regs hj h3 h4 h6 ha h5 h8 h9 h18) L hk hsub fun φ' a' w' hst ha' hv=>?_
 obtain ⟨sz1,sz2,sz3,sz4,s19,_⟩:=sR
 rw[s19,lh19]
 have rl:=@Step.rel T TZ _ _ _ _ _ _ hst
 have ext:∀ q x,φ q=some x→φ' q=some x:=@Step.ext T TZ _ _ _ _ _ _ hst
 obtain ⟨k1,k2,k3,k4⟩:=rk_again (hok:=hok) (f:=f) (hf:=hf) (wA:=wA) (xc:=xc) h7 h1 ext h2 h3 h4 h6 rl habs
 have hleft:=rk_left (T:=T) h50 h2 hst
 obtain ⟨y1,y2,rfl⟩:∃ y1 y2,vs=[y1,y2]:=by
  have:=@zAa.length T φ' _ _ hv
  match vs,this with
  | [y1,y2],_=>exact ⟨y1,y2,rfl⟩
 obtain ⟨z1,z2⟩:=zip2' hz
 have v1:=k2 _ _ z1 _ (ZAr hv (i:=0) (t:=120) rfl rfl)
 have v2:=k2 _ _ z2 _ (ZAr hv (i:=1) (t:=124) rfl rfl)
 have hlenO:=rkO_len rows.length
 have hA:=mAtW_le (n:=rows.length) (by omega)
 have hlenK:2+1+(rkL rows.length (.opq 30) (.opq 31)).length≤65536:=by omega
 obtain ⟨c1,c2⟩:=zAv (b0:=b00) hlenK (i:=7) (b:=.cells true [.int .i64 0,.int .i64 1]) rfl
 obtain ⟨d1,d2⟩:=zAv (b0:=b00) hlenK (vals_j hjl (.opq 30) (.opq 31))
 rw[show 3+(10+j)=13+j by omega] at d1 d2
 generalize hc120:a'.tmps.getD 120 undef=c120 at v1
 cases v1 with
 |agg _ cs hcs hcc=>
 generalize hcl:cs.toList=LL at hcs
 cases hcs with
 | @cons _ n _ _ q1 hcs=>
 cases hcs with
 | @cons _ colsv _ _ q2 hcs=>
 cases hcs with
 | @cons _ q3v _ _ q3 hcs=>
 cases hcs with
 | @cons _ pr _ _ q4 hcs=>
 cases hcs
 cases q3
 have e1:n=f 30:=by rw[ZAw q1]; show valF f rows 30=_; rw[zCx (by decide)]
 have e4:pr=f 31:=by rw[ZAw q4]; show valF f rows 31=_; rw[zCx (by decide)]
 refine hn a' w' n colsv pr _ (by rw[e1]; exact hname.1) (by rw[e4]; exact hname.2) ?_ ?_ k1 hleft ha' (by rw[hc120,show cs=cs.toList.toArray by simp,hcl]) rfl
 · refine zCl (P:=TZ) zBu k3 (by decide:0<2) c1 c2 rfl (fun us hus=>?_) q2
   cases hus with
   |cons b1 hus=>
   cases hus with
   |cons b2 hus=>
   cases hus
   rw[intE b1,intE b2]
 · exact zCl (P:=TZ) zBu k3 (by decide:0<2) d1 d2 rfl (fun us hus=>valW_row hj hus) v2
attribute [local irreducible] OR21 in
theorem clone21 {w:World} (hRK:RK rows next hok f hf wA xc xm xw xx xk w) (hs:wA.heap.size≤w.heap.size) {j:Nat} {r:RowW} (hj:rows[j]? = some r) {a:Act} {L:List (Nat×Value)} (ha:zAr 144 L a)
 (h5:∀ g,setL L g 5=ptrV xw) (h8:∀ g,setL L g 8=ptrV xx) (h9:∀ g,setL L g 9=ptrV xk) (h18:∀ g,setL L g 18=.int .u64 (r.id:Int)) (hk:(L.all fun p=>keptR (zBl 5 (ZAe 2 OR21.toList)) p.1)=true) (hsub:∀ g,(L.map fun p=>setL L g p.1)=L.map Prod.snd) {Q:Exit→Act→World→Prop}
 (hn:∀ a' w' (y:Img) cap,2≤cap→y.2.1+cap*3≤y.2.2→zAi (zAk w') y (zBn r)→w.heap.size≤y.1→RK rows next hok f hf wA xc xm xw xx xk w'→zBk xm.1 w w'→zAr 144 L a'→a'.tmps.getD 137 undef=.slice (some ⟨y.1,y.2.1,none⟩) 2 cap→wpOps TZ OR21 Q [7,8,9,10] a' w'):wpOps TZ OR21 Q [2,3,4,5,6,7,8,9,10] a w:=by
 obtain ⟨φ,h1,h2,h3,h4,h6,h7⟩:=hRK
 have h50:=hok.len
 have hjl:=zAf hj
 obtain ⟨_,hcv⟩:=lk_at h50 hjl
 let T:Tok:=tokX rows next hok f hf
 unfold cvRun at hcv
 split at hcv
 rotate_left
 · cases hcv
 rename_i x mf hq
 rw[Bool.and_eq_true,Bool.and_eq_true] at hcv
 obtain ⟨⟨hz,hfr⟩,habs⟩:=hcv
 have hrange:[2,3,4,5,6,7,8,9,10]=List.range' 2 (zBl 5 (ZAe 2 OR21.toList)).length++[7,8,9,10]:=by rw[lR21a]; rfl
 rw[hrange]
 refine vam (T:=T) (@ZBt T) 2 (zBl 5 (ZAe 2 OR21.toList)) tR21a gR21a hq h1 (by decide) ha (lk_regs hj h3 h4 h6 ha h5 h8 h9 h18) L hk hsub fun φ' a' w' hst ha' hv=>?_
 have rl:=@Step.rel T TZ _ _ _ _ _ _ hst
 have ext:∀ q x,φ q=some x→φ' q=some x:=@Step.ext T TZ _ _ _ _ _ _ hst
 have hleft:=rk_left (T:=T) h50 h2 hst
 have hlenO:=rkO_len rows.length
 have hA:=mAtW_le (n:=rows.length) (by omega)
 have hA12:=mAtW_ge rows.length
 rw[ZBm] at habs
 obtain ⟨c1,c2⟩:=canonW (hok:=hok) (f:=f) (f':=f) (hf:=hf) (hf':=hf) (κ:=40) (fun _ _=>rfl) rl habs
 have hns:∀ i,3+i<mAtW rows.length+3→(appNs (ZCk rows.length) [nmOf x])[i]? = some (3+i):=fun i hi=>by
  have h:=rkAll_get hi
  rw[appNs_app,List.getElem?_append_left (zAf h)]; exact h
 have hlenA:(ZCk rows.length).length=mAtW rows.length:=by
  unfold ZCk
  rw[Go.AM.zDc]
  show (mAtW rows.length+3)-3=_
  omega
 have hnx:(appNs (ZCk rows.length) [nmOf x])[mAtW rows.length]? = some (nmOf x):=by
  rw[appNs_app,List.getElem?_append_right (by omega),hlenA,Nat.sub_self]; rfl
 have at':∀ p,3≤p→p<mAtW rows.length+3→zAj (mapW 40 rows.length (appNs (ZCk rows.length) [nmOf x])) φ' p=φ' p:=fun p h1 h2=>by
  have:=ZAo (σ:=mapW 40 rows.length (appNs (ZCk rows.length) [nmOf x])) (φ:=φ') (i:=p-3) rfl (hns (p-3) (by omega))
  rwa [show 3+(p-3)=p by omega] at this
 have atx:zAj (mapW 40 rows.length (appNs (ZCk rows.length) [nmOf x])) φ' (mAtW rows.length+3)=φ' (nmOf x):=by
  have:=ZAo (σ:=mapW 40 rows.length (appNs (ZCk rows.length) [nmOf x])) (φ:=φ') (i:=mAtW rows.length) rfl hnx
  rwa [Nat.add_comm] at this
 have hself:=List.all_eq_true.1 rkSelf rows.length (List.mem_range.2 (by omega))
 have habs2:zAp (mapW 40 rows.length (ZCk rows.length)) 0 b00 (rkL rows.length (.opq 30) (.opq 31)) (zAe 2 0 b00 (rkL rows.length (.opq 30) (.opq 31)++[Blk.cells true (valW j)]))=true:=by
  refine absMem_mono (m:=zAe 2 0 b00 (rkL rows.length (.opq 30) (.opq 31))) ?_ (fun p hp=>?_) (by rw[ZBb]; omega) hself
  · rw[ZBb,ZBb,List.length_append]; omega
  · rw[ZBb] at hp
    exact snoc_get (by omega) hp
 obtain ⟨k1,_,_,_⟩:=rk_again (hok:=hok) (f:=f) (hf:=hf) (wA:=wA) (xc:=xc) (φ:=φ) (φ':=fun p=>if p<3 then φ p else zAj (mapW 40 rows.length (appNs (ZCk rows.length) [nmOf x])) φ' p) (m':=zAe 2 0 b00 (rkL rows.length (.opq 30) (.opq 31)++[Blk.cells true (valW j)])) h7 h1 (fun q y hqy=>by
  by_cases h3q:q<3
  · simp only[h3q,if_true]; exact hqy
  · have hd:=@Rel.dom T TZ _ _ _ h1 q y hqy
    rw[ZBb] at hd
    simp only[h3q,if_false]
    rw[at' q (by omega) (by omega)]
    exact ext _ _ hqy) h2 h3 h4 h6 (by
  have e:(fun p=>if p<3 then φ p else zAj (mapW 40 rows.length (appNs (ZCk rows.length) [nmOf x])) φ' p)=zAj (mapW 40 rows.length (appNs (ZCk rows.length) [nmOf x])) φ':=by
   funext p
   by_cases h3q:p<3
   · simp only[h3q,if_true]
     unfold zAj
     have ht:p<(mapW 40 rows.length (appNs (ZCk rows.length) [nmOf x])).top:=by rw[zBd]; show p<2+1+_; omega
     rw[if_pos ht]
     have hnm:(mapW 40 rows.length (appNs (ZCk rows.length) [nmOf x])).nm p=p:=by
      match p,h3q with
      |0,_=>rfl
      |1,_=>rfl
      |2,_=>rfl
     rw[hnm]
     cases hp:φ p with
     |some y=>exact (ext _ _ hp).symm
     |none=>
      cases hp':φ' p with
      |none=>rfl
      |some y=>
       rcases @Step.fresh T TZ _ _ _ _ _ _ hst p y hp' with h|h
       · rw[hp] at h; cases h
       · rw[ZBb] at h; omega
   · simp only[h3q,if_false]
  rw[e]; exact c1) habs2
 have vx:=c2 _ _ hz _ (ZAr hv (i:=0) (t:=137) rfl rfl)
 have hlast:(rkL rows.length (.opq 30) (.opq 31)++[Blk.cells true (valW j)])[mAtW rows.length]? = some (.cells true (valW j)):=by
  have hl:(rkL rows.length (.opq 30) (.opq 31)).length=mAtW rows.length:=by omega
  rw[List.getElem?_append_right (by omega),hl,Nat.sub_self]; rfl
 obtain ⟨d1,d2⟩:=zAv (b0:=b00) (by rw[List.length_append]; simp only[List.length_cons,List.length_nil]; omega) hlast
 obtain ⟨y,us,i1,i2,i3⟩:=ZBd (P:=TZ) zBu c1 d1 d2
 have hus:=valW_row hj i3
 subst hus
 rw[show 3+mAtW rows.length=mAtW rows.length+3 by omega] at i1
 have hvx:@VRel T (zAj (mapW 40 rows.length (appNs (ZCk rows.length) [nmOf x])) φ') (.slice (mAtW rows.length+3) 0 2 2 false 3) (a'.tmps.getD 137 undef):=vx
 generalize hc137:a'.tmps.getD 137 undef=c137 at hvx
 cases hvx with
 |slice _ _ _ _ _ _ cb co sz o' cap' q1 q2 q3 q4 q5 q6=>
 rw[i1] at q1
 cases q1
 have ho:=q5 (by decide)
 rw[Nat.add_zero] at ho
 subst ho
 refine hn a' w' (cb,o',sz) cap' (by omega) q6 i2 ?_ k1 hleft ha' hc137
 rw[atx] at i1
 have hge:(zAe 2 0 b00 (rkL rows.length (.opq 30) (.opq 31))).next≤nmOf x:=zAd.1 hfr
 rcases Nat.lt_or_ge cb w.heap.size with hb|hb
 rotate_left
 · exact hb
 exfalso
 obtain ⟨w1,w2,w3⟩:=abs_at (σ:=mapW 40 rows.length (appNs (ZCk rows.length) [nmOf x])) rfl habs hlast hnx
 obtain ⟨q,o'',s'',g1,g2,g3⟩:=@Step.img T TZ _ _ _ _ _ _ hst _ cb o' sz hge w2 (ZCf w3 rfl) i1 hb
 have h8:=rk_wr h50 g1 g2
 subst h8
 have hm8:(rkL rows.length (.opq 30) (.opq 31)++[Blk.cells true (valW j)])[5]? = some (.map (entW 13 (natL rows.length 0)) rows.length):=rfl
 obtain ⟨e1,e2⟩:=zAv (b0:=b00) (by rw[List.length_append]; simp only[List.length_cons,List.length_nil]; omega) hm8
 have hb8:=@Rel.blk T TZ _ _ _ c1 8 e1
 have e2':(zAe 2 0 b00 (rkL rows.length (.opq 30) (.opq 31)++[Blk.cells true (valW j)])).get 8=.map (entW 13 (natL rows.length 0)) rows.length:=e2
 rw[e2'] at hb8
 obtain ⟨cb8,co8,sz8,ces,z1,z2,_⟩:=hb8
 rw[at' 8 (by decide) (by omega),ext _ _ g3] at z1
 cases z1
 obtain ⟨c,el,fz,z3,_⟩:=i2
 have z3':w'.heap[cb]? = some (.cells c el fz):=z3
 rw[z2] at z3'
 cases z3'
end
end Go.AM
namespace Go.AM
open Go.Proofs
def flatA (acc:List (RowW×IdV)):List Value:=(acc.map Prod.snd).flatMap encR
def OutAt (wA w:World) (outv:Value) (acc:List (RowW×IdV)):Prop:=
 (∀ p,p∈acc→p.2.1.1=p.1.id)∧
 ((acc=[]∧outv=nilS)∨∃ (xo:Img) (cap:Nat),acc≠[]∧outv=.slice (some ⟨xo.1,xo.2.1,none⟩) acc.length cap∧acc.length≤cap∧xo.2.1+cap*2≤xo.2.2∧WRow w xo (flatA acc)∧wA.heap.size≤xo.1∧
  ∀ p,p∈acc→∃ (y:Img) (cp:Nat),p.2.1.2=.slice (some ⟨y.1,y.2.1,none⟩) 2 cp∧2≤cp∧y.2.1+cp*3≤y.2.2∧zAi (zAk w) y (zBn p.1)∧wA.heap.size≤y.1∧y.1≠xo.1)
theorem OutAt.move {wA w w':World} {outv:Value} {acc:List (RowW×IdV)} (h:OutAt wA w outv acc) {r:Nat} (hl:zBk r w w') (hr:r<wA.heap.size):OutAt wA w' outv acc:=by
 obtain ⟨h0,h1⟩:=h
 refine ⟨h0,?_⟩
 rcases h1 with h1|⟨xo,cap,q1,q2,q3,q4,q5,q6,q7⟩
 · exact .inl h1
 · refine .inr ⟨xo,cap,q1,q2,q3,q4,q5.left hl (by omega),q6,fun p hp=>?_⟩
   obtain ⟨y,cp,g1,g2,g3,g4,g5,g6⟩:=q7 p hp
   exact ⟨y,cp,g1,g2,g3,g4.at_ (hl.1 _ (g4.lt (fun b o h=>h)) (by omega)),g5,g6⟩
theorem zBk.of'' {w w':World} (r:Nat) (h:ZAb w w'):zBk r w w':=zBk.of h
theorem flatA_len (acc:List (RowW×IdV)):(flatA acc).length=acc.length*2:=by
 unfold flatA
 rw[flatR_len,List.length_map]
theorem flatA_app (acc:List (RowW×IdV)) (p:RowW×IdV):flatA (acc++[p])=flatA acc++encR p.2:=by
 unfold flatA
 rw[List.map_append,List.flatMap_append]
 simp
theorem flatA_cell {acc:List (RowW×IdV)} {u:Value} (h:u∈flatA acc):u.oneCell'=true:=by
 unfold flatA at h
 obtain ⟨x,_,hx⟩:=List.mem_flatMap.1 h
 simp only[encR,List.mem_cons,List.not_mem_nil,or_false] at hx
 rcases hx with rfl|rfl
 · rfl
 · exact x.2
def apVals (vs:List Value) (idv u:Value) (j:Nat):Value:=if j=10 then idv else if j=11 then u else ((vs[j-100]?).getD nilS)
theorem apVals_cell {vs:List Value} (h:∀ u,u∈vs→u.oneCell'=true) {idv u:Value} (h1:idv.oneCell'=true) (h2:u.oneCell'=true) (j:Nat):(apVals vs idv u j).oneCell'=true:=by
 unfold apVals
 split
 · exact h1
 · split
   · exact h2
   · cases hj:vs[j-100]? with
     |none=>rfl
     |some x=>exact h x (List.mem_of_getElem? hj)
theorem ap_at {m:Nat} (h:m≤49):apRun TZ K0 OR21 m=true:=apAt_all m (by omega)
theorem oqs_len' (n a:Nat):(oqs n a).length=n:=by
 induction n generalizing a with
 |zero=>rfl
 |succ n ih=>show (oqs n (a+1)).length+1=n+1; rw[ih]
section
attribute [local irreducible] OR21
theorem append21 {wA w:World} (hgs:2≤w.heap.size) (hsz:wA.heap.size≤w.heap.size) {outv:Value} {acc:List (RowW×IdV)} (hO:OutAt wA w outv acc) (hm:acc.length≤49) {r:RowW} {y:Img} {cp:Nat} (hcp:2≤cp) (hys:y.2.1+cp*3≤y.2.2) (hy:zAi (zAk w) y (zBn r)) (hyA:wA.heap.size≤y.1) (hyo:∀ xo cap,outv=.slice (some xo) acc.length cap→y.1≠xo.block)
 {a:Act} {L L':List (Nat×Value)} (ha:zAr 144 L a) (h1:∀ g,setL L g 131=outv) (h2:∀ g,setL L g 132=.int .u64 (r.id:Int)) (h3:∀ g,setL L g 137=.slice (some ⟨y.1,y.2.1,none⟩) 2 cp) (hk:(L'.all fun p=>keptR (ZAe 7 OR21.toList) p.1)=true) (hsub:∀ g,(L'.map fun p=>setL L g p.1)=L'.map Prod.snd) {Q:Exit→Act→World→Prop}
 (hn:∀ a' w' outv' s,zAr 144 L' a'→a'.tmps.getD 13 undef=outv'→OutAt wA w' outv' (acc++[(r,⟨(r.id,.slice (some ⟨y.1,y.2.1,none⟩) 2 cp),rfl⟩)])→zBk s w w'→wA.heap.size≤s→Q .normal a' w'):wpOps TZ OR21 Q [7,8,9,10] a w:=by
 obtain ⟨hid,hrow⟩:=hO
 have hrun:=ap_at hm
 unfold apRun at hrun
 split at hrun
 rotate_left
 · cases hrun
 rename_i x mf hq
 rw[Bool.and_eq_true] at hrun
 obtain ⟨hz,habs⟩:=hrun
 let T:Tok:=tokH noH (apVals (flatA acc) (.int .u64 (r.id:Int)) (.slice (some ⟨y.1,y.2.1,none⟩) 2 cp)) (apVals_cell (fun u hu=>flatA_cell hu) rfl rfl)
 have t100:∀ j u,(flatA acc)[j]? = some u→T.val (100+j)=u:=fun j u hj=>by
  show apVals _ _ _ (100+j)=u
  unfold apVals
  rw[if_neg (by omega),if_neg (by omega),show 100+j-100=j by omega,hj]; rfl
 have hflat:∀ φ,@zAa T φ (oqs (Nat.mul 2 acc.length) 100) (flatA acc):=fun φ=>by
  have:=ZCx (T:=T) (φ:=φ) (flatA acc) 100 t100
  rw[flatA_len] at this
  have e:Nat.mul 2 acc.length=acc.length*2:=Nat.mul_comm 2 _
  rw[e]; exact this
 obtain ⟨φ0,hr,hout,hblk⟩:∃ φ0:Phi,@Rel T TZ φ0 (zAe 2 0 .none (outL acc.length)) w∧@VRel T φ0 (outA acc.length) outv∧∀ q b o s,q<(zAe 2 0 .none (outL acc.length)).next→((zAe 2 0 .none (outL acc.length)).get q).wr=true→φ0 q=some (b,o,s)→∃ cap,outv=.slice (some ⟨b,o,none⟩) acc.length cap:=by
  rcases hrow with ⟨q1,q2⟩|⟨xo,cap,q1,q2,q3,q4,q5,q6,q7⟩
  · subst q1
    subst q2
    exact ⟨ZAh 2 [],none_rel (T:=T) hgs (fun b o h=>by cases h),@VRel.nilslice T _,fun q b o s hq hw _=>by have h:=hw.symm.trans (none_ro q hq); cases h⟩
  · obtain ⟨k,hk⟩:∃ k,acc.length=k+1:=⟨acc.length-1,by have:=List.length_pos_iff.2 q1; omega⟩
    have f3:ZAh 2 [xo] 3=some xo:=rfl
    have eL:outL acc.length=[.cells false (oqs (Nat.mul 2 acc.length) 100)]:=by rw[hk]; rfl
    have eA:outA acc.length=.slice 3 0 acc.length acc.length false 2:=by rw[hk]; rfl
    have hfl:=hflat (ZAh 2 [xo])
    rw[eL,eA]
    refine ⟨ZAh 2 [xo],?_,?_,fun q b o s hq hw hφ=>?_⟩
    · refine mkRelW ZAa (by decide) hgs rfl (by show 2+1+1≤65536; decide) (fun i b z hb hw hz=>?_) (fun z hz=>?_) (fun i b hb=>?_) (fun b o h=>by cases h)
      · refine ⟨rfl,fun j z' hz' hj=>?_⟩
        have h1:=zAf hz
        have h2:=zAf hz'
        simp at h1 h2
        omega
      · rw[List.mem_singleton] at hz
        subst hz
        exact q5.lt
      · match i,hb with
        |0,hb=>
         cases hb
         exact q5.brel (T:=T) rfl f3 hfl (fun v hv=>zBp (zCf hv))
        |i+1,hb=>simp at hb
    · rw[q2]
      exact @VRel.slice T _ 3 0 acc.length acc.length false 2 xo.1 xo.2.1 xo.2.2 xo.2.1 cap f3 (Nat.le_refl _) q3 (fun h=>by cases h) (fun _=>rfl) q4
    · have hn:(zAe 2 0 .none [Blk.cells false (oqs (Nat.mul 2 acc.length) 100)]).next=4:=ZAt _ _
      rw[hn] at hq
      rw[zAu (by decide) (by show 2+1+1≤65536; decide) (by omega)] at hw
      match q,hq with
      |0,_=>cases hw
      |1,_=>cases hw
      |2,_=>cases hw
      |3,_=>rw[f3] at hφ; cases hφ; exact ⟨cap,q2⟩
 have hrange:[7,8,9,10]=List.range' 7 (ZAe 7 OR21.toList).length++[]:=by rw[lR21b]; rfl
 rw[hrange]
 refine vam (T:=T) (@ZBt T) 7 (ZAe 7 OR21.toList) tR21b gR21b hq hr (by decide) ha (fun p hp=>?_) L' hk hsub fun φ' a' w' hst ha' hv=>?_
 · simp only[List.mem_cons,List.not_mem_nil,or_false] at hp
   rcases hp with rfl|rfl|rfl
   · refine ⟨(by decide:131<4096),?_⟩
     show @VRel T φ0 _ (a.tmps.getD 131 undef)
     rw[ha.get h1]; exact hout
   · refine ⟨(by decide:132<4096),?_⟩
     show @VRel T φ0 (.opq 10) (a.tmps.getD 132 undef)
     rw[ha.get h2]; exact @VRel.opq T φ0 10
   · refine ⟨(by decide:137<4096),?_⟩
     show @VRel T φ0 (.opq 11) (a.tmps.getD 137 undef)
     rw[ha.get h3]; exact @VRel.opq T φ0 11
 have rl:=@Step.rel T TZ _ _ _ _ _ _ hst
 obtain ⟨r1,r2⟩:=idAbs (T:=T) rfl rl habs
 have vx:=r2 _ _ hz _ (ZAr hv (i:=0) (t:=13) rfl rfl)
 have hlen1:2+1+([.cells false (appV (oqs (Nat.mul 2 acc.length) 100) [.opq 10,.opq 11])]:List Blk).length≤65536:=by show 2+1+1≤65536; decide
 obtain ⟨c1,c2⟩:=zAv (b0:=.none) hlen1 (i:=0) rfl
 obtain ⟨xo',us,i1,i2,i3⟩:=WRow.of (T:=T) r1 c1 c2
 have hus:us=flatA (acc++[(r,⟨(r.id,.slice (some ⟨y.1,y.2.1,none⟩) 2 cp),rfl⟩)]):=by
  rw[flatA_app]
  rw[appV_eq] at i3
  have e:=Nat.mul_comm 2 acc.length
  have hl1:(oqs (Nat.mul 2 acc.length) 100).length=(flatA acc).length:=by rw[oqs_len',flatA_len]; exact e
  have h1:=ZCn (T:=T) (oqs (Nat.mul 2 acc.length) 100).length i3
  rw[List.take_left] at h1
  have h2:=oqs_un (T:=T) (vs:=flatA acc) (by rw[flatA_len]; exact e.symm) t100 h1
  have hd:∀ (l l':List AVal) (vs:List Value),@zAa T (zAj (zAx 2 [nmOf x]) φ') (l++l') vs→@zAa T (zAj (zAx 2 [nmOf x]) φ') l' (vs.drop l.length):=by
   intro l
   induction l with
   |nil=>intro l' vs h; exact h
   |cons z l ih=>
    intro l' vs h
    cases h with
    |cons h1 h2=>exact ih l' _ h2
  have h3:=hd _ _ _ i3
  rw[← List.take_append_drop (oqs (Nat.mul 2 acc.length) 100).length us,h2]
  congr 1
  generalize us.drop (oqs (Nat.mul 2 acc.length) 100).length=ds at h3
  cases h3 with
  |cons b1 h3=>
  cases h3 with
  |cons b2 h3=>
  cases h3
  rw[ZAw b1,ZAw b2]; rfl
 subst hus
 have i1':φ' (nmOf x)=some xo':=by
  have:=ZAo (σ:=zAx 2 [nmOf x]) (φ:=φ') (i:=0) rfl rfl
  rw[show 3+0=3 from rfl,i1] at this
  exact this.symm
 have hwlen:∀ p:RowW×IdV,(acc++[p]).length=Nat.succ acc.length:=fun p=>by simp
 have hnew:w.heap.size≤xo'.1∨∃ cap,outv=.slice (some ⟨xo'.1,xo'.2.1,none⟩) acc.length cap∨∃ o,outv=.slice (some ⟨xo'.1,o,none⟩) acc.length cap:=by
  rcases Nat.lt_or_ge xo'.1 w.heap.size with hb|hb
  rotate_left
  · exact .inl hb
  right
  obtain ⟨w1,w2,w3⟩:=abs_at (σ:=zAx 2 [nmOf x]) rfl habs (j:=0) rfl rfl
  rcases Nat.lt_or_ge (nmOf x) (zAe 2 0 .none (outL acc.length)).next with hnx|hnx
  · rcases @Step.fresh T TZ _ _ _ _ _ _ hst _ _ i1' with h|h
    · have hwx:(mf.get (nmOf x)).wr=true:=(absB_wr w3).1 rfl
      have hwx0:=@Step.wr T TZ _ _ _ _ _ _ hst _ hnx hwx
      obtain ⟨cap,hc⟩:=hblk _ _ _ _ hnx hwx0 h
      exact ⟨cap,.inl hc⟩
    · omega
  · obtain ⟨q,o'',s'',g1,g2,g3⟩:=@Step.img T TZ _ _ _ _ _ _ hst _ xo'.1 xo'.2.1 xo'.2.2 hnx w2 (ZCf w3 rfl) i1' hb
    obtain ⟨cap,hc⟩:=hblk _ _ _ _ g1 g2 g3
    exact ⟨cap,.inr ⟨o'',hc⟩⟩
 have hleft:∃ s,zBk s w w'∧wA.heap.size≤s∧(s<w.heap.size→(∃ o cap,outv=.slice (some ⟨s,o,none⟩) acc.length cap)):=by
  rcases hrow with ⟨q1,q2⟩|⟨xo,cap,q1,q2,q3,q4,q5,q6,q7⟩
  · refine ⟨w.heap.size,leftX_of hst fun q b o s hq hw hφ=>?_,hsz,fun h=>absurd h (Nat.lt_irrefl _)⟩
    obtain ⟨cap,hc⟩:=hblk q b o s hq hw hφ
    rw[q2] at hc
    cases hc
  · refine ⟨xo.1,leftX_of hst fun q b o s hq hw hφ=>?_,q6,fun _=>⟨xo.2.1,cap,q2⟩⟩
    obtain ⟨cap',hc⟩:=hblk q b o s hq hw hφ
    rw[q2] at hc
    injection hc with hc _ _
    injection hc with hc
    injection hc with hc _ _
    exact hc.symm
 obtain ⟨s,hls,hsA,hso⟩:=hleft
 have hylt:y.1<w.heap.size:=hy.lt (fun b o h=>h)
 have hys':y.1≠s:=fun e=>by
  rw[e] at hylt
  obtain ⟨o,cap,hc⟩:=hso hylt
  exact hyo _ _ hc e
 have hyx:y.1≠xo'.1:=fun e=>by
  rcases hnew with h|⟨cap,h|⟨o,h⟩⟩
  · omega
  · exact hyo _ _ h e
  · exact hyo _ _ h e
 have hxoA:wA.heap.size≤xo'.1:=by
  rcases hnew with h|⟨cap,h⟩
  · omega
  · rcases hrow with ⟨q1,q2⟩|⟨xo,cap',q1,q2,q3,q4,q5,q6,q7⟩
    · rcases h with h|⟨o,h⟩<;>(rw[q2] at h; cases h)
    · rcases h with h|⟨o,h⟩
      · rw[q2] at h
        injection h with h _ _
        injection h with h
        injection h with h _ _
        rw[← h]; exact q6
      · rw[q2] at h
        injection h with h _ _
        injection h with h
        injection h with h _ _
        rw[← h]; exact q6
 generalize hc13:a'.tmps.getD 13 undef=c13 at vx
 cases vx with
 |slice _ _ _ _ _ _ cb co sz o' cap' p1 p2 p3 p4 p5 p6=>
 rw[i1] at p1
 cases p1
 have ho:=p5 (by omega)
 rw[Nat.add_zero] at ho
 subst ho
 refine hn a' w' _ s ha' hc13 ⟨fun p hp=>?_,.inr ⟨(cb,o',sz),cap',by simp,by rw[hwlen],by rw[hwlen]; omega,p6,i2,hxoA,fun p hp=>?_⟩⟩ hls hsA
 · rcases List.mem_append.1 hp with hp|hp
   · exact hid p hp
   · rw[List.mem_singleton] at hp; subst hp; rfl
 · rcases List.mem_append.1 hp with hp|hp
   · rcases hrow with ⟨q1,_⟩|⟨xo,cap2,q1,q2,q3,q4,q5,q6,q7⟩
     · rw[q1] at hp; cases hp
     · obtain ⟨z,cz,g1,g2,g3,g4,g5,g6⟩:=q7 p hp
       have hzlt:z.1<w.heap.size:=g4.lt (fun b o h=>h)
       have hzs:z.1≠s:=fun e=>by
        rw[e] at hzlt
        obtain ⟨o,cap,hc⟩:=hso hzlt
        rw[q2] at hc
        injection hc with hc _ _
        injection hc with hc
        injection hc with hc _ _
        exact g6 (by rw[e,hc])
       refine ⟨z,cz,g1,g2,g3,g4.at_ (hls.1 _ hzlt hzs),g5,fun e=>?_⟩
       have e':z.1=cb:=e
       rcases hnew with h|⟨cap,h|⟨o,h⟩⟩
       · have h':w.heap.size≤cb:=h
         omega
       · rw[q2] at h
         injection h with h _ _
         injection h with h
         injection h with h _ _
         exact g6 (by rw[e']; exact h.symm)
       · rw[q2] at h
         injection h with h _ _
         injection h with h
         injection h with h _ _
         exact g6 (by rw[e']; exact h.symm)
   · rw[List.mem_singleton] at hp
     subst hp
     exact ⟨y,cp,rfl,hcp,hys,hy.at_ (hls.1 _ hylt hys'),hyA,hyx⟩
end
end Go.AM
namespace Go.AM
open Go.Proofs
theorem c14_1:CallG OR14 1 80 38 [.tmp 79] none:=callG (by kernel_rfl) (by kernel_rfl) (by kernel_rfl) (by kernel_rfl)
theorem c15_15:CallG OR15 15 99 39 [.tmp 97,.tmp 98] (some (9,false)):=callG (by kernel_rfl) (by kernel_rfl) (by kernel_rfl) (by kernel_rfl)
theorem c16_1:CallG OR16 1 104 40 [.tmp 103] none:=callG (by kernel_rfl) (by kernel_rfl) (by kernel_rfl) (by kernel_rfl)
theorem c19_10:CallG OR19 10 125 41 [.tmp 120,.tmp 124] none:=callG (by kernel_rfl) (by kernel_rfl) (by kernel_rfl) (by kernel_rfl)
theorem c20_2:CallG OR20 2 130 42 [.tmp 128,.tmp 129] none:=callG (by kernel_rfl) (by kernel_rfl) (by kernel_rfl) (by kernel_rfl)
theorem c22_1:CallG OR22 1 142 44 [.tmp 141,.func 45] none:=callG (by kernel_rfl) (by kernel_rfl) (by kernel_rfl) (by kernel_rfl)
def o20a:List Oper:=zBl 1 OR20.toList
def o15r:List Oper:=zBl 4 (ZAe 13 OR15.toList)
def o15s:List Oper:=zBl 1 (ZAe 13 OR15.toList)
def wayRun:Bool:=match zCg TZ 144 K0 OR20 o20a [(5,.ptr 3 0)] [128] (zAe 2 0 .none [.cells true (oqs 10 0)]) with
 | .ok (.tuple [x]) _=>aeqN 3 x (.agg (oqs 10 0))
 |_=>false
def rgRun:Bool:=match zCg TZ 144 K0 OR15 o15r [(93,.bool false),(94,.slice 3 0 26 26 false 1),(96,.int .i64 0),(11,.nilslice)] [100] (zAe 2 0 .none [.cells true (oqs 26 20)]) with
 | .ok (.tuple [x]) _=>aeqN 2 x (.bool false)
 |_=>false
def slRun:Bool:=match zCg TZ 144 K0 OR15 o15s [(93,.bool false),(94,.slice 3 0 26 26 false 1),(96,.int .i64 9)] [97] (zAe 2 0 .none [.cells true (oqs 26 20)]) with
 | .ok (.tuple [x]) m=>and (absN (zAx 2 [nmOf x]) 4 (.slice 3 0 9 9 false 1) x) (and (Nat.beq (nmOf x) 3) (zAp (zAx 2 [nmOf x]) 0 .none [.cells true (oqs 26 20)] m))
 |_=>false
theorem way_run:wayRun=true:=by kernel_rfl
theorem rg_run:rgRun=true:=by kernel_rfl
theorem sl_run:slRun=true:=by kernel_rfl
theorem o20a_t:(OR20.toList.drop 0).take o20a.length=o20a:=by kernel_rfl
theorem o15r_t:(OR15.toList.drop 13).take o15r.length=o15r:=by kernel_rfl
theorem o15s_t:(OR15.toList.drop 13).take o15s.length=o15s:=by kernel_rfl
theorem o20a_g:o20a.all (ZBo TZ.globals.size)=true:=by kernel_rfl
theorem o15r_g:o15r.all (ZBo TZ.globals.size)=true:=by kernel_rfl
theorem o15s_g:o15s.all (ZBo TZ.globals.size)=true:=by kernel_rfl
theorem o20a_l:o20a.length=1:=by kernel_rfl
theorem o15r_l:o15r.length=4:=by kernel_rfl
theorem o15s_l:o15s.length=1:=by kernel_rfl
theorem ns19:Region.noSelect OR19=true:=by kernel_rfl
theorem rd19:Region.ready .any OR19 (LHf OR19 10)=[10]:=by kernel_rfl
theorem ok19:okH OR19 11 5=true:=by kernel_rfl
theorem dn19:Region.ready .any OR19 (LHf OR19 16)=[]:=by kernel_rfl
theorem zAq {K:Act→World→Prop} {Q:Exit→Act→World→Prop} (h:PanicF Q):PanicF (Exit.then K Q):=h
theorem panic_block {id:Nat} {Q:Exit→Act→World→Prop} (h:PanicF Q):PanicF (Exit.inBlock id Q):=h
theorem wayV_cell {v:WayV} {eqv u:Value} (he:eqv.oneCell'=true) (hu:u∈v.cells eqv):u.oneCell'=true:=by
 unfold WayV.cells at hu
 have three:∀ {a b c:Value},u∈[a,b,c]→a.oneCell'=true→b.oneCell'=true→c.oneCell'=true→u.oneCell'=true:=fun h h1 h2 h3=>by
  simp only[List.mem_cons,List.not_mem_nil,or_false] at h
  rcases h with rfl|rfl|rfl
  · exact h1
  · exact h2
  · exact h3
 rcases List.mem_append.1 hu with hu|hu
 · rcases List.mem_append.1 hu with hu|hu
   · rcases List.mem_append.1 hu with hu|hu
     · simp only[List.mem_cons,List.not_mem_nil,or_false] at hu
       rcases hu with rfl|rfl
       · rfl
       · exact he
     · split at hu
       · exact three hu rfl rfl rfl
       · exact three hu rfl rfl rfl
   · split at hu
     · exact three hu rfl rfl rfl
     · exact three hu rfl rfl rfl
 · simp only[List.mem_cons,List.not_mem_nil,or_false] at hu
   rcases hu with rfl|rfl<;>rfl
attribute [local irreducible] OR15 OR20 o20a o15r o15s in
theorem way20 {w:World} (hgs:2≤w.heap.size) {xw:Img} {v:WayV} {eqv:Value} (he:eqv.oneCell'=true) (hc:zAi (zAk w) xw (v.cells eqv)) (hmd:v.md<4) {a:Act} {L:List (Nat×Value)} (ha:zAr 144 L a) (h5:∀ g,setL L g 5=ptrV xw) (hk:(L.all fun p=>keptR o20a p.1)=true) (hsub:∀ g,(L.map fun p=>setL L g p.1)=L.map Prod.snd) {Q:Exit→Act→World→Prop}
 (hn:∀ a' w',ZAb w w'→zAr 144 L a'→a'.tmps.getD 128 undef=.agg (v.cells eqv).toArray→wpOps TZ OR20 Q [1,2] a' w'):wpOps TZ OR20 Q [0,1,2] a w:=by
 have hl:(v.cells eqv).length=10:=by
  unfold WayV.cells
  split<;>split<;>rfl
 have hcell:∀ u,u∈v.cells eqv→u.oneCell'=true:=fun u hu=>wayV_cell he hu
 let T:Tok:=tokH noH (fun j=>((v.cells eqv)[j]?).getD nilS) (fun j=>by
  cases hj:(v.cells eqv)[j]? with
  |none=>rfl
  |some u=>exact hcell u (List.mem_of_getElem? hj))
 have hval:∀ j u,(v.cells eqv)[j]? = some u→T.val (0+j)=u:=fun j u hj=>by
  show ((v.cells eqv)[0+j]?).getD nilS=u
  rw[Nat.zero_add,hj]; rfl
 have hr:=ro1 (T:=T) (fun _=>rfl) hgs (cs:=oqs 10 0) hc (fun φ _=>by
  have:=ZCx (T:=T) (φ:=φ) (v.cells eqv) 0 hval
  rwa [hl] at this) (fun v hv=>zBp (zCf hv))
 have hrun:=way_run
 unfold wayRun at hrun
 split at hrun
 rotate_left
 · cases hrun
 rename_i x mf hq
 have hx:=@ZAf tok0 3 _ _ hrun
 subst hx
 have hrange:[0,1,2]=List.range' 0 o20a.length++[1,2]:=by rw[o20a_l]; rfl
 rw[hrange]
 refine vam (T:=T) (@ZBt T) 0 o20a o20a_t o20a_g hq hr (by decide) ha (fun p hp=>?_) L hk hsub fun φ' a' w' hst ha' hv=>?_
 · rw[List.mem_singleton] at hp
   subst hp
   refine ⟨(by decide:5<4096),?_⟩
   show @VRel T _ (.ptr 3 0) (a.tmps.getD 5 undef)
   rw[ha.get h5]
   exact @VRel.ptr T _ 3 0 xw.1 xw.2.1 xw.2.2 rfl
 · refine hn a' w' (ZAb.of hst ro1_wr) ha' ?_
   have h128:=ZAr hv (i:=0) (t:=128) rfl rfl
   generalize a'.tmps.getD 128 undef=c at h128
   cases h128 with
   |agg _ cs hcs hcc=>
   have:=oqs_un (T:=T) (vs:=v.cells eqv) hl hval hcs
   rw[← this]
attribute [local irreducible] OR15 OR20 o20a o15r o15s in
theorem range15 {w:World} (hgs:2≤w.heap.size) {x:Img} {cap:Nat} {bs:List UInt8} (hb:bs.length=26) (hc:zAi (zAk w) x (zAl bs)) (h26:26≤cap) (hcx:x.2.1+cap*1≤x.2.2) {a:Act} {L:List (Nat×Value)} (ha:zAr 144 L a) (h93:∀ g,setL L g 93=.bool false) (h94:∀ g,setL L g 94=.slice (some ⟨x.1,x.2.1,none⟩) 26 cap) (h96:∀ g,setL L g 96=.int .i64 0) (h11:∀ g,setL L g 11=nilS)
 (hk:(L.all fun p=>keptR o15r p.1)=true) (hsub:∀ g,(L.map fun p=>setL L g p.1)=L.map Prod.snd) {Q:Exit→Act→World→Prop} (hn:∀ a' w',ZAb w w'→zAr 144 L a'→a'.tmps.getD 100 undef=.bool false→wpOps TZ OR15 Q [17] a' w'):wpOps TZ OR15 Q [13,14,15,16,17] a w:=by
 have hl:(zAl bs).length=26:=by rw[ZAc,hb]
 let T:Tok:=tokH noH (fun j=>((zAl bs)[j-20]?).getD nilS) (fun j=>getD_cell)
 have hval:∀ j u,(zAl bs)[j]? = some u→T.val (20+j)=u:=fun j u hj=>by
  show ((zAl bs)[20+j-20]?).getD nilS=u
  rw[show 20+j-20=j by omega,hj]; rfl
 have hr:=ro1 (T:=T) (fun _=>rfl) hgs (cs:=oqs 26 20) hc (fun φ _=>by
  have:=ZCx (T:=T) (φ:=φ) (zAl bs) 20 hval
  rwa [hl] at this) (fun v hv=>zBp (zCf hv))
 have hrun:=rg_run
 unfold rgRun at hrun
 split at hrun
 rotate_left
 · cases hrun
 rename_i y mf hq
 have hx:=@ZAf tok0 2 _ _ hrun
 subst hx
 have hrange:[13,14,15,16,17]=List.range' 13 o15r.length++[17]:=by rw[o15r_l]; rfl
 rw[hrange]
 refine vam (T:=T) (@ZBt T) 13 o15r o15r_t o15r_g hq hr (by decide) ha (fun p hp=>?_) L hk hsub fun φ' a' w' hst ha' hv=>?_
 · simp only[List.mem_cons,List.not_mem_nil,or_false] at hp
   rcases hp with rfl|rfl|rfl|rfl
   · refine ⟨(by decide:93<4096),?_⟩
     show @VRel T _ (.bool false) (a.tmps.getD 93 undef)
     rw[ha.get h93]; exact @VRel.bool T _ false
   · refine ⟨(by decide:94<4096),?_⟩
     show @VRel T _ (.slice 3 0 26 26 false 1) (a.tmps.getD 94 undef)
     rw[ha.get h94]
     exact @VRel.slice T _ 3 0 26 26 false 1 x.1 x.2.1 x.2.2 x.2.1 cap rfl (Nat.le_refl _) h26 (fun h=>by cases h) (fun _=>rfl) hcx
   · refine ⟨(by decide:96<4096),?_⟩
     show @VRel T _ (.int .i64 0) (a.tmps.getD 96 undef)
     rw[ha.get h96]; exact @VRel.int T _ .i64 0
   · refine ⟨(by decide:11<4096),?_⟩
     show @VRel T _ .nilslice (a.tmps.getD 11 undef)
     rw[ha.get h11]; exact @VRel.nilslice T _
 · refine hn a' w' (ZAb.of hst ro1_wr) ha' ?_
   have h100:=ZAr hv (i:=0) (t:=100) rfl rfl
   generalize a'.tmps.getD 100 undef=c at h100
   cases h100; rfl
attribute [local irreducible] OR15 OR20 o20a o15r o15s in
theorem slice15 {w:World} (hgs:2≤w.heap.size) {x:Img} {cap:Nat} {bs:List UInt8} (hb:bs.length=26) (hc:zAi (zAk w) x (zAl bs)) (h26:26≤cap) (hcx:x.2.1+cap*1≤x.2.2) {a:Act} {L:List (Nat×Value)} (ha:zAr 144 L a) (h93:∀ g,setL L g 93=.bool false) (h94:∀ g,setL L g 94=.slice (some ⟨x.1,x.2.1,none⟩) 26 cap) (h96:∀ g,setL L g 96=.int .i64 9)
 (hk:(L.all fun p=>keptR o15s p.1)=true) (hsub:∀ g,(L.map fun p=>setL L g p.1)=L.map Prod.snd) {Q:Exit→Act→World→Prop} (hn:∀ a' w' cap',ZAb w w'→zAr 144 L a'→a'.tmps.getD 97 undef=.slice (some ⟨x.1,x.2.1,none⟩) 9 cap'→zAi (zAk w') x (zAl (bs.take 9))→wpOps TZ OR15 Q [14,15,16,17] a' w'):wpOps TZ OR15 Q [13,14,15,16,17] a w:=by
 have hl:(zAl bs).length=26:=by rw[ZAc,hb]
 let T:Tok:=tokH noH (fun j=>((zAl bs)[j-20]?).getD nilS) (fun j=>getD_cell)
 have hval:∀ j u,(zAl bs)[j]? = some u→T.val (20+j)=u:=fun j u hj=>by
  show ((zAl bs)[20+j-20]?).getD nilS=u
  rw[show 20+j-20=j by omega,hj]; rfl
 have hr:=ro1 (T:=T) (fun _=>rfl) hgs (cs:=oqs 26 20) hc (fun φ _=>by
  have:=ZCx (T:=T) (φ:=φ) (zAl bs) 20 hval
  rwa [hl] at this) (fun v hv=>zBp (zCf hv))
 have hrun:=sl_run
 unfold slRun at hrun
 split at hrun
 rotate_left
 · cases hrun
 rename_i y mf hq
 simp only[Bool.and_eq_true,beq_true] at hrun
 obtain ⟨hz,hn3,habs⟩:=hrun
 have hrange:[13,14,15,16,17]=List.range' 13 o15s.length++[14,15,16,17]:=by rw[o15s_l]; rfl
 rw[hrange]
 refine vam (T:=T) (@ZBt T) 13 o15s o15s_t o15s_g hq hr (by decide) ha (fun p hp=>?_) L hk hsub fun φ' a' w' hst ha' hv=>?_
 · simp only[List.mem_cons,List.not_mem_nil,or_false] at hp
   rcases hp with rfl|rfl|rfl
   · refine ⟨(by decide:93<4096),?_⟩
     show @VRel T _ (.bool false) (a.tmps.getD 93 undef)
     rw[ha.get h93]; exact @VRel.bool T _ false
   · refine ⟨(by decide:94<4096),?_⟩
     show @VRel T _ (.slice 3 0 26 26 false 1) (a.tmps.getD 94 undef)
     rw[ha.get h94]
     exact @VRel.slice T _ 3 0 26 26 false 1 x.1 x.2.1 x.2.2 x.2.1 cap rfl (Nat.le_refl _) h26 (fun h=>by cases h) (fun _=>rfl) hcx
   · refine ⟨(by decide:96<4096),?_⟩
     show @VRel T _ (.int .i64 9) (a.tmps.getD 96 undef)
     rw[ha.get h96]; exact @VRel.int T _ .i64 9
 · have hleft:=ZAb.of hst ro1_wr
   obtain ⟨r1,r2⟩:=idAbs (T:=T) rfl (@Step.rel T TZ _ _ _ _ _ _ hst) habs
   have v97:=r2 _ _ hz _ (ZAr hv (i:=0) (t:=97) rfl rfl)
   have f3:zAj (zAx 2 [nmOf y]) φ' 3=some x:=by
    have:=ZAo (σ:=zAx 2 [nmOf y]) (φ:=φ') (i:=0) rfl rfl
    rw[show 3+0=3 from rfl,hn3] at this
    rw[hn3,this]
    exact @Step.ext T TZ _ _ _ _ _ _ hst 3 x rfl
   generalize hc97:a'.tmps.getD 97 undef=c97 at v97
   cases v97 with
   |slice _ _ _ _ _ _ cb co sz o' cap' p1 p2 p3 p4 p5 p6=>
   rw[f3] at p1
   cases p1
   have ho:=p5 (by decide)
   rw[Nat.add_zero] at ho
   subst ho
   refine hn a' w' cap' hleft ha' hc97 ?_
   have hc':=hc.at_ (hleft.1 _ (hc.lt (fun b o h=>h)))
   obtain ⟨c,el,fz,g1,g2,g3,g4⟩:=hc'
   have hl9:(zAl (bs.take 9)).length=9:=by rw[ZAc,List.length_take]; omega
   refine ⟨c,el,fz,g1,g2,?_,?_⟩
   · rw[hl9]; rw[hl] at g3; omega
   · rw[hl9]
     rw[hl] at g4
     have:=congrArg (List.take 9) g4
     rw[List.take_take] at this
     rw[show min 9 26=9 from rfl] at this
     rw[this]
     unfold zAl
     rw[List.map_take]
end Go.AM
namespace Go.AM
open Go.Proofs
theorem lex_pre:∀ {p q s t:List UInt8},p.length=q.length→Lt p q→Lt (p++s) (q++t)
 | [],[],_,_,_,h=>by cases (show (0:Int) = -1 from h)
 | [],_::_,_,_,h,_=>by simp at h
 |_::_,[],_,_,h,_=>by simp at h
 |x::p,y::q,s,t,hl,h=>by
  have h':(if x=y then lexC p q else if x<y then (-1:Int) else 1) = -1:=h
  show (if x=y then lexC (p++s) (q++t) else if x<y then (-1:Int) else 1) = -1
  by_cases hxy:x=y
  · rw[if_pos hxy] at h' ⊢
    exact lex_pre (by simpa using hl) h'
  · rw[if_neg hxy] at h' ⊢
    exact h'
theorem key_steps:((List.range 255).all fun a=>decide (lexC (keyZ [a]) (keyZ [a+1]) = -1))=true:=by kernel_rfl
theorem key_lt {a:Nat}:∀ {n:Nat},a+n+1<256→Lt (keyZ [a]) (keyZ [a+n+1])
 |0,h=>by
  have h1:lexC (keyZ [a]) (keyZ [a+1]) = -1:=of_decide_eq_true (List.all_eq_true.1 key_steps a (List.mem_range.2 (by omega)))
  exact h1
 |n+1,h=>by
  have h1:lexC (keyZ [a+n+1]) (keyZ [a+n+1+1]) = -1:=of_decide_eq_true (List.all_eq_true.1 key_steps (a+n+1) (List.mem_range.2 (by omega)))
  exact (key_lt (n:=n) (by omega)).trans h1
theorem keyZ_lt {a c:Nat} (h:a<c) (hc:c<256):Lt (keyZ [a]) (keyZ [c]):=by
 have:=key_lt (a:=a) (n:=c-a-1) (by omega)
 rwa [show a+(c-a-1)+1=c by omega] at this
theorem keyZ_inj {a c:Nat} (ha:a<256) (hc:c<256) (h:keyZ [a]=keyZ [c]):a=c:=by
 rcases Nat.lt_trichotomy a c with g|g|g
 · have:=keyZ_lt g hc
   rw[h] at this; exact this.irr.elim
 · exact g
 · have:=keyZ_lt g ha
   rw[h] at this; exact this.irr.elim
theorem zCq (a:Nat):(keyZ [a]).length=9:=by rw[keyZ_len]; rfl
theorem full_split (r:RowW):fullW true r=keyZ [r.a]++(keyZ [128+r.b]++idB r.id):=by
 unfold fullW preW kvals keyZ keysN
 simp[keysN]
theorem full_lt {r s:RowW} (h:r.a<s.a) (hs:s.a<256):Lt (fullW true r) (fullW true s):=by
 rw[full_split,full_split]
 exact lex_pre (by rw[zCq,zCq]) (keyZ_lt h hs)
theorem full_key_lt {r:RowW} {i:Nat} (h:r.a<i) (hi:i<256):Lt (fullW true r) (keyZ [i]):=by
 rw[full_split]
 have:=lex_pre (s:=keyZ [128+r.b]++idB r.id) (t:=[]) (by rw[zCq,zCq]) (keyZ_lt h hi)
 rwa [List.append_nil] at this
theorem key_full_lt {r:RowW} {i:Nat} (h:i≤r.a) (hr:r.a<256):Lt (keyZ [i]) (fullW true r):=by
 rw[full_split]
 rcases Nat.lt_or_eq_of_le h with g|g
 · have:=lex_pre (s:=[]) (t:=keyZ [128+r.b]++idB r.id) (by rw[zCq,zCq]) (keyZ_lt g hr)
   rwa [List.append_nil] at this
 · subst g
   exact lt_app (fun e=>by
    have:=congrArg List.length e
    rw[List.length_append,zCq] at this
    simp at this)
theorem full_take (r:RowW):(fullW true r).take 9=keyZ [r.a]:=by
 rw[full_split,List.take_append_of_le_length (by rw[zCq]; omega),List.take_of_length_le (by rw[zCq]; omega)]
theorem sorted_lt {es:List Ent} (hs:Sorted es) {i j:Nat} {x y:Ent} (hij:i<j) (hx:es[i]? = some x) (hy:es[j]? = some y):Lt x.kb y.kb:=by
 have hi:=zAf hx
 have hj:=zAf hy
 have:=List.pairwise_iff_getElem.1 hs i j hi hj hij
 rw[List.getElem?_eq_getElem hi] at hx
 rw[List.getElem?_eq_getElem hj] at hy
 cases hx
 cases hy
 exact this
theorem isUp_at {es:List Ent} (hs:Sorted es) {kb:List UInt8} {k:Nat} (hlo:∀ j y,j<k→es[j]? = some y→¬ Lt kb y.kb) (hhi:∀ j y,k≤j→es[j]? = some y→Lt kb y.kb):IsUp kb es es[k]?:=by
 cases hk:es[k]? with
 |none=>
  intro y hy
  obtain ⟨j,hj⟩:=List.getElem?_of_mem hy
  have hjl:=zAf hj
  have:es.length≤k:=by
   rcases Nat.lt_or_ge k es.length with h|h
   · rw[List.getElem?_eq_getElem h] at hk; cases hk
   · exact h
  exact hlo j y (by omega) hj
 |some z=>
  refine ⟨List.mem_of_getElem? hk,hhi k z (Nat.le_refl _) hk,fun y hy hlt=>?_⟩
  obtain ⟨j,hj⟩:=List.getElem?_of_mem hy
  rcases Nat.lt_trichotomy j k with h|h|h
  · exact (hlo j y h hj hlt).elim
  · subst h
    rw[hj] at hk
    cases hk; exact .inl rfl
  · exact .inr (sorted_lt hs h hk hj)
theorem isUp_next {es:List Ent} (hs:Sorted es) {k:Nat} {x:Ent} (hx:es[k]? = some x):IsUp x.kb es es[k+1]?:=by
 refine isUp_at hs (fun j y hj hy hlt=>?_) (fun j y hj hy=>sorted_lt hs (by omega) hx hy)
 rcases Nat.lt_or_eq_of_le (Nat.le_of_lt_succ hj) with h|h
 · exact (hlt.trans (sorted_lt hs h hy hx)).irr
 · subst h
   rw[hx] at hy
   cases hy; exact hlt.irr
theorem isUp_nil {es:List Ent} (hs:Sorted es) (hne:∀ e,e∈es→e.kb≠[]):IsUp [] es es[0]?:=
 isUp_at hs (fun j y hj=>by omega) (fun j y _ hy=>Lt.nil (hne y (List.mem_of_getElem? hy)))
structure RhoOk (rows:List RowW) (H:Heap) (es:List Ent) (ρ:Ent→RowW):Prop where
 mem:∀ x,x∈es→ρ x∈rows
 kb:∀ x,x∈es→x.kb=fullW true (ρ x)
 val:∀ x,x∈es→ZAk H 1 x.v 1 (zAl [UInt8.ofNat (ρ x).id])
theorem rho_ex {rows:List RowW} {H:Heap} {root:Value} {sg:Sigs} (h:zBf true rows H root sg):∃ ρ,RhoOk rows H (zAo sg) ρ:=by
 classical
 refine ⟨fun x=>if hx:x∈zAo sg then Classical.choose (h.vals x hx) else ⟨0,0,0⟩,fun x hx=>?_,fun x hx=>?_,fun x hx=>?_⟩
 · simp only[hx,dif_pos]; exact (Classical.choose_spec (h.vals x hx)).1
 · simp only[hx,dif_pos]; exact (Classical.choose_spec (h.vals x hx)).2.1
 · simp only[hx,dif_pos]; exact (Classical.choose_spec (h.vals x hx)).2.2
section
variable {rows:List RowW} {H:Heap} {es:List Ent} {ρ:Ent→RowW}
theorem rho_mono (hρ:RhoOk rows H es ρ) (hok:∀ r,r∈rows→RowWOk r) (hs:Sorted es) {i j:Nat} {x y:Ent} (hij:i≤j) (hx:es[i]? = some x) (hy:es[j]? = some y):(ρ x).a≤(ρ y).a:=by
 rcases Nat.lt_or_eq_of_le hij with h|h
 · rcases Nat.lt_or_ge (ρ y).a (ρ x).a with g|g
   · have h1:=sorted_lt hs h hx hy
     have mx:=List.mem_of_getElem? hx
     have my:=List.mem_of_getElem? hy
     rw[hρ.kb x mx,hρ.kb y my] at h1
     exact (h1.trans (full_lt g (hok _ (hρ.mem x mx)).a)).irr.elim
   · exact g
 · subst h
   rw[hx] at hy
   cases hy; exact Nat.le_refl _
theorem rho_place (hρ:RhoOk rows H es ρ) (hok:∀ r,r∈rows→RowWOk r) (hs:Sorted es) {i:Nat} (hi:i<256):∃ k,k≤es.length∧(∀ j x,j<k→es[j]? = some x→(ρ x).a<i)∧(∀ j x,k≤j→es[j]? = some x→i≤(ρ x).a)∧IsUp (keyZ [i]) es es[k]?∧∀ x,x∈es→x.kb≠keyZ [i]:=by
 have hne:∀ x,x∈es→x.kb≠keyZ [i]:=fun x hx e=>by
  rw[hρ.kb x hx] at e
  have:=congrArg List.length e
  rw[fullW_len,zCq] at this
  cases this
 obtain ⟨k,hk,hS⟩:=side_ex hs hne
 refine ⟨k,hk,fun j x hj hx=>?_,fun j x hj hx=>?_,isUp_at hs (fun j y hj hy h=>?_) (fun j y hj hy=>?_),hne⟩
 · have h1:Lt x.kb (keyZ [i]):=(hS j x hx).1 hj
   have mx:=List.mem_of_getElem? hx
   rcases Nat.lt_or_ge (ρ x).a i with g|g
   · exact g
   · rw[hρ.kb x mx] at h1
     exact (h1.trans (key_full_lt g (hok _ (hρ.mem x mx)).a)).irr.elim
 · have h1:Lt (keyZ [i]) x.kb:=Lt.of_gt ((hS j x hx).2 hj)
   have mx:=List.mem_of_getElem? hx
   rcases Nat.lt_or_ge (ρ x).a i with g|g
   · rw[hρ.kb x mx] at h1
     exact (h1.trans (full_key_lt g hi)).irr.elim
   · exact g
 · have h1:Lt y.kb (keyZ [i]):=(hS j y hy).1 hj
   exact (h.trans h1).irr
 · exact Lt.of_gt ((hS j y hy).2 hj)
theorem filter_none {α:Type} {p:α→Bool}:∀ {l:List α},(∀ x,x∈l→p x=false)→l.filter p=[]
 | [],_=>rfl
 |x::l,h=>by
  rw[List.filter_cons,h x (List.mem_cons_self ..)]
  simp only[Bool.false_eq_true,if_false]
  exact filter_none fun y hy=>h y (List.mem_cons_of_mem _ hy)
theorem filter_take (p:RowW→Bool) {k:Nat} (h:∀ j x,k≤j→es[j]? = some x→p (ρ x)=false):(es.map ρ).filter p=((es.take k).map ρ).filter p:=by
 have e:es.map ρ=(es.take k).map ρ++(es.drop k).map ρ:=by rw[← List.map_append,List.take_append_drop]
 rw[e,List.filter_append]
 have:((es.drop k).map ρ).filter p=[]:=filter_none fun r hr=>by
  obtain ⟨x,hx,rfl⟩:=List.mem_map.1 hr
  obtain ⟨j,hj⟩:=List.getElem?_of_mem hx
  rw[List.getElem?_drop] at hj
  exact h (k+j) x (by omega) hj
 rw[this,List.append_nil]
theorem filter_step (p:RowW→Bool) {k:Nat} {x:Ent} (hx:es[k]? = some x):((es.take (k+1)).map ρ).filter p=((es.take k).map ρ).filter p++(if p (ρ x) then [ρ x] else []):=by
 have hk:=zAf hx
 have e:es.take (k+1)=es.take k++[x]:=by
  rw[List.take_add_one,hx]; rfl
 rw[e,List.map_append,List.filter_append]
 congr 1
 show List.filter p [ρ x]=_
 rw[List.filter_cons]
 rfl
end
end Go.AM
namespace Go.AM
open Go.Proofs
theorem ZAk.go {w w':World} {z n:Nat} {pl:Value} {vs:List Value} (h:ZAk (zAk w) z pl n vs) (hl:ZAb w w'):ZAk (zAk w') z pl n vs:=by
 rcases h with h|⟨x,cap,h1,h2,h3,h4,h5,h6⟩
 · exact .inl h
 · exact .inr ⟨x,cap,h1,h2,h3,h4,h5,h6.at_ (hl.1 _ (h6.lt (fun b o h=>h)))⟩
theorem EqAt.mono {H H':Heap} {v:WayV} {eqv:Value} (h:EqAt H v eqv) (hm:∀ b o,H b=some o→H' b=some o):EqAt H' v eqv:=by
 rcases h with h|⟨h1,x,h2,h3,h4⟩
 · exact .inl h
 · exact .inr ⟨h1,x,h2,h3,h4.mono hm⟩
theorem row_un {H:Heap} {z n:Nat} {pl:Value} {vs us:List Value} (h:ZAk H z pl n vs) (h':ZAk H z pl n us):vs=us:=by
 rcases h with ⟨_,rfl,_⟩|⟨x,cap,h1,h2,h3,h4,h5,h6⟩
 · rcases h' with ⟨_,rfl,_⟩|⟨x,cap,h1,_⟩
   · rfl
   · omega
 · rcases h' with ⟨q,_⟩|⟨y,cap',g1,g2,g3,g4,g5,g6⟩
   · omega
   · rw[h3] at g3
     injection g3 with g3 _ _
     injection g3 with g3
     injection g3 with g3 g4' _
     obtain ⟨c,el,fz,a1,a2,a3,a4⟩:=h6
     obtain ⟨c',el',fz',b1,b2,b3,b4⟩:=g6
     rw[← g3,a1] at b1
     cases b1
     rw[← g4',g2,← h2,a4] at b4
     exact b4
theorem zAr.add {nt:Nat} {L:List (Nat×Value)} {a:Act} (h:zAr nt L a) {t:Nat} {v:Value} (hv:a.tmps.getD t undef=v):zAr nt ((t,v)::L) a:=
 ⟨h.is,fun p hp=>by
  rcases List.mem_cons.1 hp with rfl|hp
  · exact hv
  · exact h.reg p hp⟩
theorem ha_none {w:World} {p q:Nat}:HA w p q p=none:=by unfold HA; rw[if_pos (.inl rfl)]
theorem root_cell {H:Heap} {root:Value} {sg:Sigs} (h:TreeIs H root sg):root.oneCell'=true:=by
 cases h with
 |one x f es h1 _ _ _ _=>rw[h1]; rfl
 |many x f0 ls h1 _ _ _ _=>rw[h1]; rfl
@[reducible] def LR (xw xx xk xc:Img) (fromv outv:Value):List (Nat×Value):=[(5,ptrV xw),(8,ptrV xx),(9,ptrV xk),(11,fromv),(13,outv),(14,ptrV xc)]
section
variable {rows:List RowW} {next:Nat} {hok:ZBp rows next} {f:Nat→Value} {hf:∀ j,(f j).oneCell'=true} {v:WayV} {eqv:Value} {i:Nat} {wA:World} {xc xm xw xx xk:Img} {p:Img} {root:Value} {sg:Sigs} {fromv:Value} {ρ:Ent→RowW}
structure LoopSt (rows:List RowW) (next:Nat) (hok:ZBp rows next) (f:Nat→Value) (hf:∀ j,(f j).oneCell'=true) (v:WayV) (i:Nat) (wA:World) (xc xm xw xx xk:Img) (p:Img) (sg:Sigs) (fromv:Value) (ρ:Ent→RowW) (k:Nat) (acc:List (RowW×IdV)) (a:Act) (w:World):Prop where
 regs:∃ outv,zAr 144 (LR xw xx xk xc fromv outv) a∧OutAt wA w outv acc
 left:Left2 xc.1 xm.1 wA w
 rk:RK rows next hok f hf wA xc xm xw xx xk w
 cur:∃ key kb ab e c fv es pp,WRow w xc [ptrV p,key,.bool ab]∧key.oneCell'=true∧zAy (HA wA xc.1 xm.1) key kb∧ab=Nat.beq e 1∧LocW e kb sg c fv es pp∧IsUp kb (zAo sg) (zAo sg)[k]?
 told:acc.map Prod.fst=(((zAo sg).take k).map ρ).filter fun r=>ZBn v (numZ r.a)
 len:acc.length≤k
 kle:k≤(zAo sg).length
 low:v.md=3→∀ j x,k≤j→(zAo sg)[j]? = some x→i≤(ρ x).a
attribute [local irreducible] OR14 OR15 OR16 OR17 OR19 OR20 OR21 CR18 in
theorem roundR (hC:RCtx rows next hok f hf v eqv i wA xc xm xw xx xk p root sg fromv) (hρ:RhoOk rows (HA wA xc.1 xm.1) (zAo sg) ρ) (heq:eqv.oneCell'=true) {k:Nat} {acc:List (RowW×IdV)} {a:Act} {w:World} (h:LoopSt rows next hok f hf v i wA xc xm xw xx xk p sg fromv ρ k acc a w) {Q:Exit→Act→World→Prop} (hQ:PanicF Q)
 (hexit:∀ a' w' outv acc',zAr 144 [(13,outv)] a'→OutAt wA w' outv acc'→Left2 xc.1 xm.1 wA w'→acc'.map Prod.fst=((zAo sg).map ρ).filter (fun r=>ZBn v (numZ r.a))→Q (.exit 0) a' w')
 (hnext:∀ acc' a' w',k<(zAo sg).length→LoopSt rows next hok f hf v i wA xc xm xw xx xk p sg fromv ρ (k+1) acc' a' w'→Q .normal a' w'):BDR.wp TZ Q a w:=by
 obtain ⟨s14,s15,s16,s17,s19,s20,s21,s22,s23⟩:=sR
 obtain ⟨⟨outv,ha,hO⟩,hL,hRK,⟨key,kb,ab,e,c,fv,es,pp,hcur,hkey,hkb,hab,hloc,hup⟩,hacc,hlen,hk,hlow⟩:=h
 have hgs:2≤w.heap.size:=Nat.le_trans hC.gs hL.2.1
 have h50:=hok.len
 have hsort:=hC.inv.inv.sorted
 have h14:=curNext_ok hC.inv h50 hgs hL.ha hC.tree (root_cell hC.inv.tree) rfl (xc:=xc) ha_none hcur hkey hkb hab hloc hup
 rw[bdr_is]
 refine wp_seq (ZAg s14 (ZAj (nt:=144) zAh 0 1 [1,2,3,4,5,6,7,8] ((79,ptrV xc)::LR xw xx xk xc fromv outv) (by kernel_rfl) (fun g=>by kernel_rfl) (fun g=>by kernel_rfl) ha fun a1 ha1=>?_))
 refine vcall c14_1 (fun c=>(80,c)::LR xw xx xk xc fromv outv) ha1 (by decide) (fun g=>by kernel_rfl) (args:=[ptrV xc]) (fun g=>by kernel_rfl) h14 (fun c g=>by kernel_rfl) fun c2 a2 w2 hR ha2=>?_
 obtain ⟨hl2,hsh⟩:=hR
 have hL2:Left2 xc.1 xm.1 wA w2:=hL.then hl2 (.inl rfl)
 have hO2:=hO.move hl2 hC.clt
 have hRK2:=hRK.move hl2 (.inl rfl) hL.2.1
 have hgs2:2≤w2.heap.size:=Nat.le_trans hC.gs hL2.2.1
 cases ho:(zAo sg)[k]? with
 |none=>
  rw[ho] at hsh
  obtain ⟨av,bv,rfl⟩:=hsh
  refine ZAj (nt:=144) zAh 2 7 [] [(11,fromv),(13,outv),(15,av),(17,.bool false)] (by kernel_rfl) (fun g=>by kernel_rfl) (fun g=>by kernel_rfl) ha2 fun a3 ha3=>?_
  unfold wpOps
  refine wp_seq (wp_seq (vreg (nt:=144) zAh s15 [(13,outv),(101,.bool true)] (fun g=>by kernel_rfl) (fun g=>by kernel_rfl) ha3 fun a4 ha4=>?_))
  refine zCj (ha4.ev (v:=.bool true) fun f=>rfl) (fun _=>Go.wp_exit ?_) (fun h=>by cases h)
  refine hexit a4 w2 outv acc (ha4.sub fun g=>rfl) hO2 hL2 ?_
  have hkn:(zAo sg).length≤k:=by
   rcases Nat.lt_or_ge k (zAo sg).length with h|h
   · rw[List.getElem?_eq_getElem h] at ho; cases ho
   · exact h
  rw[hacc,List.take_of_length_le hkn]
 |some x=>
 rw[ho] at hsh
 obtain ⟨av,bv,u,rfl,hcur2,hav,hbv,hxu⟩:=hsh
 have hx:x∈zAo sg:=List.mem_of_getElem? ho
 have hkl:=zAf ho
 have hr:=hρ.mem x hx
 have hrok:=hok.ok _ hr
 have h26:x.kb.length=26:=by rw[hρ.kb x hx,fullW_len]; rfl
 have hu:[u]=[Value.int .u8 ((ρ x).id:Int)]:=by
  have h1:=row_un hxu ((hρ.val x hx).mono hL.ha)
  rw[h1]
  show [Value.int .u8 (((UInt8.ofNat (ρ x).id).toNat:Nat):Int)]=_
  have hhi:=hrok.hi
  rw[show (UInt8.ofNat (ρ x).id).toNat=(ρ x).id by simp[UInt8.toNat_ofNat']; omega]
 have hu':u=Value.int .u8 ((ρ x).id:Int):=by injection hu
 subst hu'
 obtain ⟨q1,_⟩|⟨xa,capa,_,_,rfl,hcapa,hsza,hca⟩:=hav
 · cases q1
 refine ZAj (nt:=144) zAh 2 7 [] ((15,.slice (some ⟨xa.1,xa.2.1,none⟩) 26 capa)::(16,bv)::(17,.bool true)::LR xw xx xk xc fromv outv) (by kernel_rfl) (fun g=>by kernel_rfl) (fun g=>by kernel_rfl) ha2 fun a3 ha3=>?_
 unfold wpOps
 have tail:∀ a4 w4,ZAb w2 w4→zAr 144 ((16,bv)::LR xw xx xk xc fromv outv) a4→(v.md=3→(ρ x).a=i)→
  (Code.seq (.region 16 OR16 false) (.seq (.seq (.region 17 OR17 false) (.cond (.tmp 109) CR18 .skip)) (.seq (.region 19 OR19 true) (.seq (.region 20 OR20 false) (.cond (.tmp 130) (.region 21 OR21 false) .skip))))).wp TZ Q a4 w4:=by
  intro a4 w4 hl4 ha4 ha3i
  have hL4:=hL2.of' hl4
  have hO4:=hO2.move (zBk.of'' xc.1 hl4) hC.clt
  have hRK4:=hRK2.move (zBk.of'' xc.1 hl4) (.inl rfl) hL2.2.1
  have hgs4:2≤w4.heap.size:=Nat.le_trans hC.gs hL4.2.1
  have hid:(ρ x).id<100:=by
   have:=hok.lt _ hr
   have:=hok.next
   omega
  refine wp_seq (ZAg s16 (ZAj (nt:=144) zAh 0 1 [1,2,3,4,5,6,7,8] ((103,bv)::LR xw xx xk xc fromv outv) (by kernel_rfl) (fun g=>by kernel_rfl) (fun g=>by kernel_rfl) ha4 fun a5 ha5=>?_))
  refine vcall c16_1 (fun c=>(104,c)::LR xw xx xk xc fromv outv) ha5 (by decide) (fun g=>by kernel_rfl) (args:=[bv]) (fun g=>by kernel_rfl) (uint_ok hid hgs4 (hbv.go hl4)) (fun c g=>by kernel_rfl) fun c6 a6 w6 hR6 ha6=>?_
  obtain ⟨rfl,hl6⟩:=hR6
  refine ZAj (nt:=144) zAh 2 7 [] ((18,.int .u64 ((ρ x).id:Int))::(20,.nilIface)::LR xw xx xk xc fromv outv) (by kernel_rfl) (fun g=>by kernel_rfl) (fun g=>by kernel_rfl) ha6 fun a7 ha7=>?_
  unfold wpOps
  refine wp_seq (wp_seq (vreg (nt:=144) zAh s17 ((18,.int .u64 ((ρ x).id:Int))::(109,.bool false)::LR xw xx xk xc fromv outv) (fun g=>by kernel_rfl) (fun g=>by kernel_rfl) ha7 fun a8 ha8=>?_))
  refine zCj (ha8.ev (v:=.bool false) fun f=>rfl) (fun h=>by cases h) (fun _=>Go.wp_skip ?_)
  have hL6:=hL4.of' hl6
  have hO6:=hO4.move (zBk.of'' xc.1 hl6) hC.clt
  have hRK6:=hRK4.move (zBk.of'' xc.1 hl6) (.inl rfl) hL4.2.1
  have hcur6:=(hcur2.left (zBk.of'' xm.1 hl4) hC.cm).left (zBk.of'' xm.1 hl6) hC.cm
  obtain ⟨j,hj⟩:=List.getElem?_of_mem hr
  refine wp_seq (look19 hRK6 hC.name hj (ha8.sub (L':=(18,.int .u64 ((ρ x).id:Int))::LR xw xx xk xc fromv outv) fun g=>by kernel_rfl) (fun g=>rfl) (fun g=>rfl) (fun g=>rfl) (fun g=>rfl) (by kernel_rfl) (fun g=>by kernel_rfl) fun a9 w9 n colsv pr vv hn hpr hcols hvv hRK9 hl9 ha9 h120 h124=>?_)
  have hL9:=hL6.then hl9 (.inr (.inl rfl))
  have hO9:=hO6.move hl9 hC.mlt
  have hcur9:=hcur6.left hl9 hC.cm
  have hgs9:2≤w9.heap.size:=Nat.le_trans hC.gs hL9.2.1
  refine wpAny_of_held (S:=fun _=>True) 6 _ _ _ ?_
  refine hcall c19_10 rd19 (fun c=>(125,c)::(18,.int .u64 ((ρ x).id:Int))::LR xw xx xk xc fromv outv) ((ha9.add h124).add h120) (by decide) (fun g=>by kernel_rfl) (args:=[.agg #[n,colsv,.bool false,pr],vv]) (fun g=>by kernel_rfl) (pickR_ok hgs9 hn hpr hcols hvv) (fun c g=>by kernel_rfl) fun c10 a10 w10 hR10 ha10=>⟨trivial,?_⟩
  obtain ⟨hl10,lv,rfl,hlv⟩:=hR10
  have hL10:=hL9.of' hl10
  have hO10:=hO9.move (zBk.of'' xc.1 hl10) hC.clt
  have hRK10:=hRK9.move (zBk.of'' xc.1 hl10) (.inl rfl) hL9.2.1
  have hcur10:=hcur9.left (zBk.of'' xm.1 hl10) hC.cm
  have hgs10:2≤w10.heap.size:=Nat.le_trans hC.gs hL10.2.1
  have hsz11:Nat.ble (Nat.add 11 5) OR19.size=true:=by rw[s19]; rfl
  obtain ⟨hl5,hd5⟩:=segD hsz11
  have hseg5:=hseg (P:=TZ) (S:=fun _=>True) (w:=w10) (nt:=144) (fuel:=0) (Q:=Exit.then ((Code.seq (.region 20 OR20 false) (.cond (.tmp 130) (.region 21 OR21 false) .skip)).wp TZ Q) Q) zAh ns19 (zAq hQ) trivial (L:=(125,.tuple #[lv,.bool false])::(18,.int .u64 ((ρ x).id:Int))::LR xw xx xk xc fromv outv)
   ((21,lv)::(18,.int .u64 ((ρ x).id:Int))::LR xw xx xk xc fromv outv) 11 ((OR19.toList.drop 11).take 5) hd5 (by rw[hl5]; exact ok19) (fun g=>by kernel_rfl) (fun g=>by kernel_rfl) ha10
  rw[hl5] at hseg5
  refine hseg5 fun a11 ha11=>?_
  refine wpAnyH_done dn19 ?_ 0
  show Code.wp TZ _ Q a11 w10
  have hH10:=hL10.ha
  refine wp_seq (ZAg s20 ?_)
  refine way20 hgs10 heq (hC.way.mono hH10) hC.md ha11 (fun g=>rfl) (by kernel_rfl) (fun g=>by kernel_rfl) fun a12 w12 hl12 ha12 h128=>?_
  have hL12:=hL10.of' hl12
  have hO12:=hO10.move (zBk.of'' xc.1 hl12) hC.clt
  have hRK12:=hRK10.move (zBk.of'' xc.1 hl12) (.inl rfl) hL10.2.1
  have hcur12:=hcur10.left (zBk.of'' xm.1 hl12) hC.cm
  have hgs12:2≤w12.heap.size:=Nat.le_trans hC.gs hL12.2.1
  refine ZAj (nt:=144) zAh 1 1 [2] ((128,.agg (v.cells eqv).toArray)::(129,lv)::(18,.int .u64 ((ρ x).id:Int))::LR xw xx xk xc fromv outv) (by kernel_rfl) (fun g=>by kernel_rfl) (fun g=>by kernel_rfl) (ha12.add h128) fun a13 ha13=>?_
  refine vcall c20_2 (fun c=>(130,c)::(18,.int .u64 ((ρ x).id:Int))::LR xw xx xk xc fromv outv) ha13 (by decide) (fun g=>by kernel_rfl) (args:=[.agg (v.cells eqv).toArray,lv]) (fun g=>by kernel_rfl) (told_ok hgs12 hC.md (hC.eq.mono hL12.ha) (hlv.go hl12) fun h3=>by rw[hC.lo h3,ha3i h3]) (fun c g=>by kernel_rfl) fun c14 a14 w14 hR14 ha14=>?_
  obtain ⟨hl14,rfl⟩:=hR14
  unfold wpOps
  have hL14:=hL12.of' hl14
  have hO14:=hO12.move (zBk.of'' xc.1 hl14) hC.clt
  have hRK14:=hRK12.move (zBk.of'' xc.1 hl14) (.inl rfl) hL12.2.1
  have hcur14:=hcur12.left (zBk.of'' xm.1 hl14) hC.cm
  have hgs14:2≤w14.heap.size:=Nat.le_trans hC.gs hL14.2.1
  obtain ⟨c',fv',es',pp',hloc'⟩:=locW1 hC.inv.inv hx
  obtain ⟨hrow,_⟩:=hC.inv.row x hx
  have hup':=isUp_next hsort ho
  have hkx:=hrow.ok.1
  have hstep:=filter_step (ρ:=ρ) (fun r=>ZBn v (numZ r.a)) ho
  refine zCj (ha14.ev (v:=.bool (ZBn v (numZ (ρ x).a))) fun f=>rfl) (fun ht=>?_) (fun ht=>Go.wp_skip ?_)
  rotate_left
  · refine hnext acc a14 w14 hkl ⟨⟨outv,ha14.sub fun g=>by kernel_rfl,hO14⟩,hL14,hRK14,⟨x.k,x.kb,true,1,c',fv',es',pp',hcur14,hrow.1.cell,hkx,rfl,hloc',hup'⟩,?_,by omega,hkl,fun h3 j y hj hy=>hlow h3 j y (by omega) hy⟩
    rw[hstep,ht,hacc]
    simp
  refine ZAg s21 (ZAj (nt:=144) zAh 0 2 [2,3,4,5,6,7,8,9,10] ((131,outv)::(132,.int .u64 ((ρ x).id:Int))::(18,.int .u64 ((ρ x).id:Int))::LR xw xx xk xc fromv outv) (by kernel_rfl) (fun g=>by kernel_rfl) (fun g=>by kernel_rfl) ha14 fun a15 ha15=>?_)
  refine clone21 hRK14 hL14.2.1 hj ha15 (fun g=>rfl) (fun g=>rfl) (fun g=>rfl) (fun g=>rfl) (by kernel_rfl) (fun g=>by kernel_rfl) fun a16 w16 y cp hcp hys hy hyn hRK16 hl16 ha16 h137=>?_
  have hL16:=hL14.then hl16 (.inr (.inl rfl))
  have hO16:=hO14.move hl16 hC.mlt
  have hcur16:=hcur14.left hl16 hC.cm
  have hgs16:2≤w16.heap.size:=Nat.le_trans hC.gs hL16.2.1
  have hklen:k<50:=by
   have:=hC.inv.len
   omega
  refine append21 (L':=[(5,ptrV xw),(8,ptrV xx),(9,ptrV xk),(11,fromv),(14,ptrV xc)]) hgs16 hL16.2.1 hO16 (by omega) hcp hys hy (Nat.le_trans hL14.2.1 hyn) (fun xo cap hxo e=>?_) (ha16.add h137) (fun g=>rfl) (fun g=>rfl) (fun g=>rfl) (by kernel_rfl) (fun g=>by kernel_rfl) fun a17 w17 outv' s ha17 h13 hO17 hl17 hsA=>?_
  · rcases hO14.2 with ⟨_,q⟩|⟨xo',cap',_,q,_,_,q5,_⟩
    · rw[q] at hxo; cases hxo
    · rw[q] at hxo
      injection hxo with hxo _ _
      injection hxo with hxo
      have:=q5.lt
      rw[← hxo] at e
      have e':y.1=xo'.1:=e
      omega
  · have hne:xc.1≠s:=by
     have:=hC.clt
     omega
    refine hnext _ a17 w17 hkl ⟨⟨outv',(ha17.add h13).sub fun g=>by kernel_rfl,hO17⟩,hL16.then hl17 (.inr (.inr hsA)),hRK16.move hl17 (.inr hsA) hL16.2.1,⟨x.k,x.kb,true,1,c',fv',es',pp',hcur16.left hl17 hne,hrow.1.cell,hkx,rfl,hloc',hup'⟩,?_,by rw[List.length_append]; simp; omega,hkl,fun h3 j y hj hy=>hlow h3 j y (by omega) hy⟩
    rw[hstep,ht,List.map_append,hacc]
    simp
 by_cases hmd:v.md=3
 rotate_left
 · have hf0:=hC.from0 hmd
   subst hf0
   refine wp_seq (wp_seq (ZAg s15 (ZAj (nt:=144) zAh 0 13 [13,14,15,16,17] ((16,bv)::(93,.bool false)::(94,.slice (some ⟨xa.1,xa.2.1,none⟩) 26 capa)::(96,.int .i64 0)::LR xw xx xk xc nilS outv) (by kernel_rfl) (fun g=>by kernel_rfl) (fun g=>by kernel_rfl) ha3 fun a4 ha4=>?_)))
   refine range15 hgs2 h26 hca hcapa hsza ha4 (fun g=>rfl) (fun g=>rfl) (fun g=>rfl) (fun g=>rfl) (by kernel_rfl) (fun g=>by kernel_rfl) fun a5 w5 hl5 ha5 h100=>?_
   refine ZAj (nt:=144) zAh 17 1 [] ((16,bv)::(101,.bool false)::LR xw xx xk xc nilS outv) (by kernel_rfl) (fun g=>by kernel_rfl) (fun g=>by kernel_rfl) (ha5.add h100) fun a6 ha6=>?_
   unfold wpOps
   refine zCj (ha6.ev (v:=.bool false) fun f=>rfl) (fun h=>by cases h) (fun _=>Go.wp_skip ?_)
   exact tail a6 w5 hl5 (ha6.sub fun g=>by kernel_rfl) fun h=>(hmd h).elim
 · obtain ⟨q1,_⟩|⟨xf,capf,_,_,hfv,hcapf,hszf,hcf⟩:=hC.from3 hmd
   · cases q1
   subst hfv
   have hcf2:=hcf.mono hL2.ha
   refine wp_seq (wp_seq (ZAg s15 (ZAj (nt:=144) zAh 0 13 [13,14,15,16,17] ((16,bv)::(93,.bool false)::(94,.slice (some ⟨xa.1,xa.2.1,none⟩) 26 capa)::(96,.int .i64 9)::LR xw xx xk xc (.slice (some ⟨xf.1,xf.2.1,none⟩) 9 capf) outv) (by kernel_rfl) (fun g=>by kernel_rfl) (fun g=>by kernel_rfl) ha3 fun a4 ha4=>?_)))
   refine slice15 hgs2 h26 hca hcapa hsza ha4 (fun g=>rfl) (fun g=>rfl) (fun g=>rfl) (by kernel_rfl) (fun g=>by kernel_rfl) fun a5 w5 cap' hl5 ha5 h97 hc5=>?_
   refine ZAj (nt:=144) zAh 14 1 [15,16,17] ((97,.slice (some ⟨xa.1,xa.2.1,none⟩) 9 cap')::(98,.slice (some ⟨xf.1,xf.2.1,none⟩) 9 capf)::(16,bv)::(93,.bool false)::LR xw xx xk xc (.slice (some ⟨xf.1,xf.2.1,none⟩) 9 capf) outv) (by kernel_rfl) (fun g=>by kernel_rfl) (fun g=>by kernel_rfl) (ha5.add h97) fun a6 ha6=>?_
   have hk9:(keyZ [i]).length=9:=zCq i
   have ht9:(x.kb.take 9).length=9:=by rw[List.length_take,h26]; rfl
   have heqk:=equal_ok (c:=cap') (d:=capf) hc5 (hcf2.at_ (hl5.1 _ (hcf2.lt (fun b o h=>h)))) (by rw[ht9]; decide) (by rw[hk9]; decide)
   rw[ht9,hk9] at heqk
   refine vcall c15_15 (fun c=>(99,c)::(16,bv)::(93,.bool false)::LR xw xx xk xc (.slice (some ⟨xf.1,xf.2.1,none⟩) 9 capf) outv) ha6 (by decide) (fun g=>by kernel_rfl) (args:=[.slice (some ⟨xa.1,xa.2.1,none⟩) 9 cap',.slice (some ⟨xf.1,xf.2.1,none⟩) 9 capf]) (fun g=>by kernel_rfl) heqk (fun c g=>by kernel_rfl) fun c7 a7 w7 hR7 ha7=>?_
   obtain ⟨rfl,hl7⟩:=hR7
   have hkt:x.kb.take 9=keyZ [(ρ x).a]:=by rw[hρ.kb x hx,full_take]
   by_cases hi:(ρ x).a=i
   · have hd:decide (x.kb.take 9=keyZ [i])=true:=decide_eq_true (by rw[hkt,hi])
     rw[hd] at ha7
     refine ZAj (nt:=144) zAh 16 2 [] ((16,bv)::(101,.bool false)::LR xw xx xk xc (.slice (some ⟨xf.1,xf.2.1,none⟩) 9 capf) outv) (by kernel_rfl) (fun g=>by kernel_rfl) (fun g=>by kernel_rfl) ha7 fun a8 ha8=>?_
     unfold wpOps
     refine zCj (ha8.ev (v:=.bool false) fun f=>rfl) (fun h=>by cases h) (fun _=>Go.wp_skip ?_)
     exact tail a8 w7 (hl5.trans hl7) (ha8.sub fun g=>by kernel_rfl) fun _=>hi
   · have hd:decide (x.kb.take 9=keyZ [i])=false:=decide_eq_false (fun h=>hi (keyZ_inj hrok.a hC.hi (hkt.symm.trans h)))
     rw[hd] at ha7
     refine ZAj (nt:=144) zAh 16 2 [] ((16,bv)::(101,.bool true)::LR xw xx xk xc (.slice (some ⟨xf.1,xf.2.1,none⟩) 9 capf) outv) (by kernel_rfl) (fun g=>by kernel_rfl) (fun g=>by kernel_rfl) ha7 fun a8 ha8=>?_
     unfold wpOps
     refine zCj (ha8.ev (v:=.bool true) fun f=>rfl) (fun _=>Go.wp_exit ?_) (fun h=>by cases h)
     refine hexit a8 w7 outv acc (ha8.sub fun g=>by kernel_rfl) ((hO2.move (zBk.of'' xc.1 hl5) hC.clt).move (zBk.of'' xc.1 hl7) hC.clt) ((hL2.of' hl5).of' hl7) ?_
     rw[hacc]
     refine (filter_take _ fun j y hj hy=>?_).symm
     have h1:=rho_mono hρ hok.ok hsort hj ho hy
     have h2:=hlow hmd k x (Nat.le_refl _) ho
     have hyl:=(hok.ok _ (hρ.mem y (List.mem_of_getElem? hy))).a
     unfold ZBn
     rw[if_pos hmd,hC.lo hmd]
     refine decide_eq_false fun e=>?_
     unfold numZ at e
     rw[Int.subNatNat_eq_coe,Int.subNatNat_eq_coe] at e
     omega
end
end Go.AM
namespace Go.AM
open Go.Proofs
theorem row_id {rows:List RowW} (hs:rows.Pairwise fun r s=>r.id<s.id) {r s:RowW} (hr:r∈rows) (h2:s∈rows) (h:r.id=s.id):r=s:=by
 obtain ⟨i,hi⟩:=List.getElem?_of_mem hr
 obtain ⟨j,hj⟩:=List.getElem?_of_mem h2
 have il:=zAf hi
 have jl:=zAf hj
 rw[List.getElem?_eq_getElem il] at hi
 rw[List.getElem?_eq_getElem jl] at hj
 cases hi
 cases hj
 have h3:=List.pairwise_iff_getElem.1 hs
 rcases Nat.lt_trichotomy i j with g|g|g
 · have:=h3 i j il jl g
   omega
 · subst g; rfl
 · have:=h3 j i jl il g
   omega
theorem strict_ext:∀ {l l':List Nat},l.Pairwise (· < ·)→l'.Pairwise (· < ·)→(∀ x,x∈l ↔ x∈l')→l=l'
 | [],[],_,_,_=>rfl
 | [],y::l',_,_,h=>by have:=(h y).2 (List.mem_cons_self ..); cases this
 |x::l,[],_,_,h=>by have:=(h x).1 (List.mem_cons_self ..); cases this
 |x::l,y::l',h1,h2,h=>by
  obtain ⟨a1,a2⟩:=List.pairwise_cons.1 h1
  obtain ⟨b1,b2⟩:=List.pairwise_cons.1 h2
  have hxy:x=y:=by
   rcases List.mem_cons.1 ((h x).1 (List.mem_cons_self ..)) with e|e
   · exact e
   · rcases List.mem_cons.1 ((h y).2 (List.mem_cons_self ..)) with e'|e'
     · exact e'.symm
     · have:=b1 x e
       have:=a1 y e'
       omega
  subst hxy
  congr 1
  refine strict_ext a2 b2 fun z=>⟨fun hz=>?_,fun hz=>?_⟩
  · rcases List.mem_cons.1 ((h z).1 (List.mem_cons_of_mem _ hz)) with e|e
    · subst e
      have:=a1 z hz
      omega
    · exact e
  · rcases List.mem_cons.1 ((h z).2 (List.mem_cons_of_mem _ hz)) with e|e
    · subst e
      have:=b1 z hz
      omega
    · exact e
section
variable {rows:List RowW} {next:Nat} {hok:ZBp rows next} {H:Heap} {root:Value} {sg:Sigs} {ρ:Ent→RowW}
theorem rho_ids (hok:ZBp rows next) (hT:zBf true rows H root sg) (hρ:RhoOk rows H (zAo sg) ρ):((zAo sg).map ρ).Pairwise fun r s=>r.id≠s.id:=by
 rw[List.pairwise_map]
 have hso:(zAo sg).Pairwise fun a b=>Lt a.kb b.kb:=hT.inv.sorted
 refine List.Pairwise.imp_of_mem (fun {x y} hx hy h e=>?_) hso
 have e2:=row_id hok.sorted (hρ.mem x hx) (hρ.mem y hy) e
 rw[hρ.kb x hx,hρ.kb y hy,e2] at h
 exact h.irr
theorem rho_all (hok:ZBp rows next) (hT:zBf true rows H root sg) (hρ:RhoOk rows H (zAo sg) ρ) {r:RowW}:r∈(zAo sg).map ρ ↔ r∈rows:=by
 constructor
 · intro h
   obtain ⟨x,hx,rfl⟩:=List.mem_map.1 h
   exact hρ.mem x hx
 · intro h
   obtain ⟨e,he,hk⟩:=hT.all r h
   refine List.mem_map.2 ⟨e,he,?_⟩
   have h1:=hρ.kb e he
   exact row_id hok.sorted (hρ.mem e he) h (fullW_inj (hok.ok _ (hρ.mem e he)) (hok.ok _ h) (h1.symm.trans hk))
theorem sorted_rows (hok:ZBp rows next) (hT:zBf true rows H root sg) (hρ:RhoOk rows H (zAo sg) ρ) {tb:RowW→Bool} {acc:List (RowW×IdV)} (h1:acc.map Prod.fst=((zAo sg).map ρ).filter tb) (h2:∀ p,p∈acc→p.2.1.1=p.1.id) {ys:List IdV} (hp:ys.Perm (acc.map Prod.snd)) (hs:ys.Pairwise fun a b=>a.1.1≤b.1.1) :
 ys.map (fun y=>y.1.1)=(rows.filter tb).map RowW.id:=by
 have e1:(acc.map Prod.snd).map (fun y=>y.1.1)=(((zAo sg).map ρ).filter tb).map RowW.id:=by
  rw[← h1,List.map_map,List.map_map]
  refine List.map_congr_left fun p hp=>?_
  exact h2 p hp
 have hperm:(ys.map fun y=>y.1.1).Perm ((((zAo sg).map ρ).filter tb).map RowW.id):=by
  rw[← e1]; exact hp.map _
 have hnd:(ys.map fun y=>y.1.1).Nodup:=by
  refine hperm.nodup_iff.2 ?_
  unfold List.Nodup
  rw[List.pairwise_map]
  exact (rho_ids hok hT hρ).filter _
 refine strict_ext ?_ ?_ fun n=>?_
 · have hle:(ys.map fun y=>y.1.1).Pairwise (·≤·):=by
    rw[List.pairwise_map]; exact hs
   exact (hle.and hnd).imp fun {a b} h=>by omega
 · rw[List.pairwise_map]
   exact hok.sorted.filter _
 · rw[hperm.mem_iff,List.mem_map,List.mem_map]
   constructor
   · rintro ⟨r,hr,rfl⟩
     obtain ⟨g1,g2⟩:=List.mem_filter.1 hr
     exact ⟨r,List.mem_filter.2 ⟨(rho_all hok hT hρ).1 g1,g2⟩,rfl⟩
   · rintro ⟨r,hr,rfl⟩
     obtain ⟨g1,g2⟩:=List.mem_filter.1 hr
     exact ⟨r,List.mem_filter.2 ⟨(rho_all hok hT hρ).2 g1,g2⟩,rfl⟩
end
def RowsRes (rows:List RowW) (w:World) (lv:Value):Prop:=
 (rows=[]∧lv=nilS)∨∃ (xo:Img) (cap:Nat),rows≠[]∧lv=.slice (some ⟨xo.1,xo.2.1,none⟩) rows.length cap∧
  ∀ j r,rows[j]? = some r→w.cell? ⟨xo.1,xo.2.1+j*2,none⟩=some (.int .u64 (r.id:Int))∧∃ vv,w.cell? ⟨xo.1,xo.2.1+(j*2+1),none⟩=some vv∧ZAk (zAk w) 3 vv 2 (zBn r)
def fn19:Func:=(TZ.funcs[19]?).getD default
theorem fn19_is:TZ.funcs[19]? = some fn19:=by kernel_rfl
theorem fn19_body:fn19.body=some BR:=by kernel_rfl
theorem fn19_nt:fn19.ntmps=144:=by kernel_rfl
theorem fn19_res:fn19.results.toList=[.tmp 6,.tmp 7]:=by kernel_rfl
theorem fn19_name:fn19.name≠ "runtime.NumGoroutine":=by
 have h:(fn19.name == "runtime.NumGoroutine")=false:=by kernel_rfl
 intro e
 rw[e] at h; simp at h
attribute [local irreducible] BDR CSR OR22 OR23 in
theorem rows_ok {rows:List RowW} {next:Nat} {hok:ZBp rows next} {sp:Value} {tag:Nat} {own:Nat→Nat} {w:World} (hS:StoW rows next hok sp tag own w) (htag:tag≠0) (h00:own 0=0) {v:WayV} (hmd:v.md<4) {i:Nat} (hi:i<256) (hlo:v.md=3→v.lo=numZ i) {eqv:Value} (he:EqAt (zAk w) v eqv) (heo:∀ x:Img,eqv=.slice (some ⟨x.1,x.2.1,none⟩) 1 1→own x.1=0) :
 Ends TZ 19 #[sp,.int .i64 0,.agg (v.cells eqv).toArray] w fun c w'=>∃ lv,c=.tuple #[lv,.nilIface]∧LeftO own tag w w'∧RowsRes (rows.filter fun r=>ZBn v (numZ r.a)) w' lv:=by
 obtain ⟨s14,s15,s16,s17,s19,s20,s21,s22,s23⟩:=sR
 refine enter_V (args:=[sp,.int .i64 0,.agg (v.cells eqv).toArray]) fn19_is fn19_name fn19_body fn19_nt (by simp) fun a Q ha hQ hret=>?_
 rw[br_is]
 refine rowsA hS htag h00 hmd hi hlo he heo ha fun a1 wA own1 f hf xc xm xw xx xk p root sg fromv keyv hC ha1 hG hoc hom hcur hk0 hk3=>?_
 obtain ⟨ρ,hρ⟩:=rho_ex hC.inv
 have hsort:=hC.inv.inv.sorted
 have heq:eqv.oneCell'=true:=by
  rcases he with ⟨_,h⟩|⟨_,x,h,_⟩<;>rw[h]<;>rfl
 have h50:=hok.len
 have hlenT:=hC.inv.len
 obtain ⟨k0,hk0le,hst⟩:∃ k,k≤(zAo sg).length∧LoopSt rows next hok f hf v i wA xc xm xw xx xk p sg fromv ρ k [] a1 wA:=by
  by_cases h3:v.md=3
  · obtain ⟨k,hk,g1,g2,g3,g4⟩:=rho_place hρ hok.ok hsort hi
    have hne:keyZ [i]≠[]:=fun e=>by
     have:=congrArg List.length e
     rw[zCq] at this; cases this
    obtain ⟨c,fv,es,pp,hl⟩:=locW0 hC.inv.inv hne g4
    refine ⟨k,hk,⟨nilS,ha1,fun p hp=>(by cases hp),.inl ⟨rfl,rfl⟩⟩,Left2.refl,hC.rk,⟨keyv,keyZ [i],false,0,c,fv,es,pp,hcur,(hk3 h3).cell,bytes_of_row (by rw[zCq]; exact hk3 h3),rfl,hl,g3⟩,?_,Nat.zero_le _,hk,fun _ j x hj hx=>g2 j x hj hx⟩
    refine (filter_none fun r hr=>?_).symm
    obtain ⟨x,hx,rfl⟩:=List.mem_map.1 hr
    obtain ⟨j,hj⟩:=List.getElem?_of_mem hx
    have hjk:=zAf hj
    rw[List.length_take] at hjk
    rw[List.getElem?_take,if_pos (by omega)] at hj
    have hlt:=g1 j x (by omega) hj
    unfold ZBn
    rw[if_pos h3,hlo h3]
    refine decide_eq_false fun e=>?_
    unfold numZ at e
    rw[Int.subNatNat_eq_coe,Int.subNatNat_eq_coe] at e
    omega
  · have hkv:=hk0 h3
    subst hkv
    obtain ⟨fv,es,hl⟩:=locW2 hC.inv.inv
    exact ⟨0,Nat.zero_le _,⟨nilS,ha1,fun p hp=>(by cases hp),.inl ⟨rfl,rfl⟩⟩,Left2.refl,hC.rk,⟨nilS,[],false,2,0,fv,es,0,hcur,rfl,.inl ⟨rfl,rfl⟩,rfl,hl,isUp_nil hsort hC.inv.inv.keys⟩,rfl,Nat.zero_le _,Nat.zero_le _,fun h=>(h3 h).elim⟩
 refine wp_seq (wp_block ?_)
 refine wp_loop_ghost (fun n a w=>∃ k acc,n=(zAo sg).length-k∧LoopSt rows next hok f hf v i wA xc xm xw xx xk p sg fromv ρ k acc a w) _ ⟨k0,[],rfl,hst⟩ ?_
 rintro n a2 w2 ⟨k,acc,rfl,h2⟩
 refine wp_block ?_
 refine roundR hC hρ heq h2 ?_ (fun a3 w3 outv acc3 ha3 hO3 hL3 hacc3=>?_) (fun acc3 a3 w3 hk3 h3=>?_)
 · exact panic_block (zAq (panic_block (zAq hQ)))
 rotate_left
 · exact ⟨_,by omega,k+1,acc3,rfl,h3⟩
 show Code.wp TZ (.seq (.region 22 OR22 false) (.seq (.region 23 OR23 false) .ret)) Q a3 w3
 have frame:∀ {w':World},Left2 xc.1 xm.1 wA w'→LeftO own tag w w':=fun {w'} hl=>
  hG.1.then hG.2 ⟨fun b hb hne=>hl.1 b hb (fun e=>hne (by rw[e]; exact hoc)) (fun e=>hne (by rw[e]; exact hom)),hl.2⟩
 have fin:∀ a4 w4,zAr 144 [(13,outv)] a4→Left2 xc.1 xm.1 wA w4→RowsRes (rows.filter fun r=>ZBn v (numZ r.a)) w4 outv→(Code.seq (.region 23 OR23 false) .ret).wp TZ Q a4 w4:=by
  intro a4 w4 ha4 hL4 hres
  refine wp_seq (vreg (nt:=144) zAh s23 [(6,outv),(7,.nilIface)] (fun g=>by kernel_rfl) (fun g=>by kernel_rfl) ha4 fun a5 ha5=>?_)
  refine wp_ret (hret a5 w4 _ ha5.is (results_two fn19_res _ w4) ⟨outv,?_,frame hL4,hres⟩)
  rw[ha5.get (t:=6) (v:=outv) (fun f=>rfl),ha5.get (t:=7) (v:=.nilIface) (fun f=>rfl)]
 refine wp_seq (ZAg s22 (ZAj (nt:=144) zAh 0 1 [1] [(13,outv),(141,outv)] (by kernel_rfl) (fun g=>by kernel_rfl) (fun g=>by kernel_rfl) ha3 fun a4 ha4=>?_))
 obtain ⟨hids,hrow⟩:=hO3
 rcases hrow with ⟨rfl,rfl⟩|⟨xo,cap,q1,rfl,q3,q4,q5,q6,q7⟩
 · refine vcall c22_1 (fun c=>[(13,nilS)]) ha4 (by decide) (fun g=>by kernel_rfl) (args:=[nilS,.func (.func 45) #[] #[]]) (fun g=>by kernel_rfl) sort_none (fun c g=>by kernel_rfl) fun c5 a5 w5 hR5 ha5=>?_
   subst hR5
   unfold wpOps
   refine fin a5 w5 ha5 hL3 (.inl ⟨?_,rfl⟩)
   have:=sorted_rows hok hC.inv hρ hacc3 hids (ys:=[]) (List.Perm.refl _) List.Pairwise.nil
   have h0:=congrArg List.length this
   simp only[List.length_map] at h0
   exact List.length_eq_zero_iff.1 h0.symm
 · have hacclen:acc3.length≤100:=by
    have h1:=congrArg List.length hacc3
    rw[List.length_map] at h1
    have h2:=List.length_filter_le (fun r=>ZBn v (numZ r.a)) ((zAo sg).map ρ)
    rw[List.length_map] at h2
    omega
   have hso:=sort_ok (xs:=acc3.map Prod.snd) (cap:=cap) q5 (by rw[List.length_map]; exact hacclen)
   rw[List.length_map] at hso
   refine vcall c22_1 (fun c=>[(13,.slice (some ⟨xo.1,xo.2.1,none⟩) acc3.length cap)]) ha4 (by decide) (fun g=>by kernel_rfl) (args:=[.slice (some ⟨xo.1,xo.2.1,none⟩) acc3.length cap,.func (.func 45) #[] #[]]) (fun g=>by kernel_rfl) hso (fun c g=>by kernel_rfl) fun c5 a5 w5 hR5 ha5=>?_
   obtain ⟨hl5,ys,hperm,hsorted,hcells⟩:=hR5
   unfold wpOps
   refine fin a5 w5 ha5 (hL3.then hl5 (.inr (.inr q6))) ?_
   have hsr:=sorted_rows hok hC.inv hρ hacc3 hids hperm hsorted
   have hlen:(rows.filter fun r=>ZBn v (numZ r.a)).length=acc3.length:=by
    have h0:=congrArg List.length hsr
    simp only[List.length_map] at h0
    have h1:=hperm.length_eq
    rw[List.length_map] at h1
    omega
   refine .inr ⟨xo,cap,fun e=>q1 ?_,by rw[hlen],fun j r hj=>?_⟩
   · rw[e] at hlen
     exact List.length_eq_zero_iff.1 hlen.symm
   have hjl:=zAf hj
   have hyl:j<ys.length:=by
    have h1:=hperm.length_eq
    rw[List.length_map] at h1
    omega
   have hy:=List.getElem?_eq_getElem hyl
   generalize ys[j]=y at hy
   have hid:y.1.1=r.id:=by
    have h1:=congrArg (fun l=>l[j]?) hsr
    simp only[List.getElem?_map,hy,hj,Option.map_some,Option.some.injEq] at h1
    exact h1
   obtain ⟨c1,c2⟩:=hcells j y hy
   have hmem:y∈acc3.map Prod.snd:=hperm.mem_iff.1 (List.mem_of_getElem? hy)
   obtain ⟨pp,hpm,hpe⟩:=List.mem_map.1 hmem
   subst hpe
   have hpr:pp.1=r:=by
    have h1:pp.1∈acc3.map Prod.fst:=List.mem_map_of_mem hpm
    rw[hacc3] at h1
    have h2:=(rho_all hok hC.inv hρ).1 (List.mem_filter.1 h1).1
    have h3:=(List.mem_filter.1 (List.mem_of_getElem? hj)).1
    exact row_id hok.sorted h2 h3 (by rw[← hids pp hpm]; exact hid)
   obtain ⟨y,cp,g1,g2,g3,g4,g5,g6⟩:=q7 pp hpm
   refine ⟨by rw[← hid]; exact c1,pp.2.1.2,c2,?_⟩
   rw[g1,← hpr]
   exact .inr ⟨y,cp,by decide,rfl,rfl,g2,g3,g4.at_ (hl5.1 _ (g4.lt (fun b o h=>h)) g6)⟩
end Go.AM
namespace Go.AM
def swM:List Blk:=swG (keepK (.map 8) .nilslice (.nx .u64 0) (.slice 9 0 2 2 false 1)) (.map [] 0) (.cells true [.ptr 12 0,.ptr 14 0]) [.cells true [.ptr 13 0,.int .i64 (.ofNat 0)],.cells true [.nilslice,.nilslice,.nilslice],.cells true [.ptr 15 0,.int .i64 (.ofNat 0)],.cells true [.nilslice,.nilslice,.nilslice]]
def trNs (m:Mem) (t1 t2:Nat):List Nat:=[t1,nmOf (zBq m t1 0),t2,nmOf (zBq m t2 0)]
def mdNs2 (m:Mem) (a0 kp tr:Nat):List Nat:=swNs m a0 (nmOf (zBq m kp 0)) tr (trNs m (nmOf (zBq m tr 0)) (nmOf (zBq m tr 1)))
def mdNs1 (m:Mem) (a0 kp:Nat):List Nat:=mdNs2 m a0 kp (nmOf (zBq m kp 3))
def mdNs (m:Mem) (a0:Nat):List Nat:=mdNs1 m a0 (nmOf (zBq m a0 1))
def mdMap (ns:List Nat):Map:=⟨2,ns,[],nx1,fun _=>.bad⟩
def mdRun (K:KH):Bool:=match K 14 [] (m00 2 0 b00) with
 | .ok v m=>and (absN (mdMap (mdNs m (nmOf v))) 4 (.ptr 3 0) v) (zAp (mdMap (mdNs m (nmOf v))) 0 b00 swM m)
 |_=>false
def knRun (K:KH):Bool:=match K 6 [] (m00 2 0 b00) with
 | .ok (.bool b) _=>b
 |_=>false
theorem md_run:mdRun K0=true:=by kernel_rfl
end Go.AM
namespace Go.AM
theorem kn_run:knRun K1=true:=by kernel_rfl
end Go.AM
namespace Go.AM
open Go.Proofs
def G0 (w:World):Prop:=2≤w.heap.size∧∃ c el fz,w.heap[0]? = some (.cells c el fz)∧c[0]? = some (.iface 219 (.agg #[.pointer (some ⟨2,27,none⟩)]))
theorem G0.left {w w':World} (h:G0 w) (hl:w'.heap[0]? = w.heap[0]?) (hs:w.heap.size≤w'.heap.size):G0 w':=by
 obtain ⟨h2,c,el,fz,h0,h1⟩:=h
 exact ⟨by omega,c,el,fz,hl.trans h0,h1⟩
theorem m00_wr:∀ q,q<(m00 2 0 b00).next→((m00 2 0 b00).get q).wr=false:=m00_ro (by decide) (by decide) rfl
theorem known_ok {w:World} (h:G0 w):Ends TZ 6 #[] w fun cv w'=>cv=.bool true∧ZAb w w':=by
 obtain ⟨h2,c,el,fz,h0,hc⟩:=h
 let T:Tok:=tokH noH (fun _=>nilS) (fun _=>rfl)
 have hr:@Rel T TZ (phi0 c.size) (m00 2 0 b00) w:=rel0 (T:=T) rfl rfl ZAa h0 hc h2
 have hrun:=kn_run
 unfold knRun at hrun
 split at hrun
 rotate_left
 · cases hrun
 rename_i b m hq
 subst hrun
 refine (k1_ok T 6 _ _ _ _ hq _ w #[] hr (@zAa.nil T _)).mono fun cv w' ⟨φ',hst,hv⟩=>⟨?_,ZAb.of hst m00_wr⟩
 cases hv; rfl
theorem stoNil:ZBp [] 1 where
 ok:=fun r h=>by cases h
 lt:=fun r h=>by cases h
 sorted:=List.Pairwise.nil
 len:=by simp
 next:=⟨by decide,by decide⟩
def swT:List Blk:=swM.set 6 treesK
theorem swT_run:zAp (mapW 2 0 [3,4,5,6,7,8,9,10,11]) 0 b00 (swL 0 []) (zAe 2 0 b00 swT)=true:=by kernel_rfl
theorem swL0_wr {p:Nat} (hp:p<12) (hw:((zAe 2 0 b00 (swL 0 [])).get p).wr=true):p=5∨p=8:=by
 rw[zAu (by decide) (by show 2+1+9≤65536; decide) (by omega)] at hw
 match p,hp with
 |0,_=>cases hw
 |1,_=>cases hw
 |2,_=>cases hw
 |3,_=>cases hw
 |4,_=>cases hw
 |5,_=>exact .inl rfl
 |6,_=>cases hw
 |7,_=>cases hw
 |8,_=>exact .inr rfl
 |9,_=>cases hw
 |10,_=>cases hw
 |11,_=>cases hw
theorem made_ok {w:World} (h:G0 w):Ends TZ 14 #[] w fun cv w'=>ZAb w w'∧∃ own,(∀ b,b<w.heap.size→own b=0)∧StoW [] 1 stoNil cv 1 own w':=by
 obtain ⟨h2,c,el,fz,h0,hc⟩:=h
 let T:Tok:=tokH noH (fun _=>nilS) (fun _=>rfl)
 have hr:@Rel T TZ (phi0 c.size) (m00 2 0 b00) w:=rel0 (T:=T) rfl rfl ZAa h0 hc h2
 have hrun:=md_run
 unfold mdRun at hrun
 split at hrun
 rotate_left
 · cases hrun
 rename_i v m hq
 rw[Bool.and_eq_true] at hrun
 obtain ⟨hz,habs⟩:=hrun
 refine (@ZBt T 14 _ _ _ _ hq _ w #[] hr (@zAa.nil T _)).mono fun cv w' ⟨φ',hst,hv⟩=>⟨ZAb.of hst m00_wr,?_⟩
 generalize hns:mdNs m (nmOf v)=ns at hz habs
 have rl:=@Step.rel T TZ _ _ _ _ _ _ hst
 have abs:∀ (f:Nat→Value) (hf:∀ j,(f j).oneCell'=true),@Rel (tokX [] 1 stoNil f hf) TZ (zAj (mdMap ns) φ') (zAe 2 0 b00 swM) w'∧∀ t s,absN (mdMap ns) 4 t s=true→∀ c,@VRel T φ' s c→@VRel (tokX [] 1 stoNil f hf) (zAj (mdMap ns) φ') t c:=fun f hf=>
  absorb (T:=T) (T':=tokX [] 1 stoNil f hf) (σ:=mdMap ns) ZAa.symm rl habs (fun k j c hj _=>absurd hj (Nat.not_lt_zero _)) (fun k d s c hs hc=>by
   cases d with
   |succ d=>exact (aeq_bad (by cases k<;>exact hs)).elim
   |zero=>
    have e:=@ZAf tok0 2 _ _ hs
    subst e
    have e2:=intE hc
    rw[e2]
    exact @VRel.nx (tokX [] 1 stoNil f hf) _ k 0 (by decide) tokX_nx) (fun i s c hs _=>(aeq_bad hs).elim) (fun b o h=>by cases h) (fun h=>by cases h)
 generalize hΦ:zAj (mdMap ns) φ'=Φ at abs
 have hlen:=abs_len habs
 have old:∀ i b bk o s',swM[i]? = some bk→bk.live=true→Φ (3+i)=some (b,o,s')→w.heap.size≤b:=fun i b bk o s' hi hl hφ=>by
  have hil:=zAf hi
  have hn:=List.getElem?_eq_getElem (l:=(mdMap ns).ns) (i:=i) (by omega)
  obtain ⟨w1,w2,w3⟩:=abs_at (σ:=mdMap ns) rfl habs hi hn
  rw[← hΦ,ZAo (σ:=mdMap ns) rfl hn] at hφ
  rcases Nat.lt_or_ge b w.heap.size with hb|hb
  rotate_left
  · exact hb
  obtain ⟨q,o'',s'',g1,g2,g3⟩:=@Step.img T TZ _ _ _ _ _ _ hst _ b o s' (show 3≤_ from w1) w2 (ZCf w3 hl) hφ hb
  rw[m00_wr q g1] at g2; cases g2
 let f0:Nat→Value:=fun _=>nilS
 have hf0:∀ j,(f0 j).oneCell'=true:=fun _=>rfl
 let T0:Tok:=tokX [] 1 stoNil f0 hf0
 obtain ⟨r0,v0⟩:=abs f0 hf0
 obtain ⟨x3,hx3,rfl⟩:=ptr_ex (v0 _ _ hz _ hv)
 have hlenM:2+1+swM.length≤65536:=by show 2+1+13≤65536; decide
 have tree:∀ {i:Nat} {q:Nat},swM[i]? = some (.cells true [.ptr q 0,.int .i64 (.ofNat 0)])→∃ x y:Img,Φ (3+i)=some x∧Φ q=some y∧zAi (zAk w') x [ptrV y,.int .i64 0]:=fun {i q} hi=>by
  obtain ⟨p1,p2⟩:=zAv (b0:=b00) hlenM hi
  obtain ⟨x,us,i1,i2,i3⟩:=ZBd (P:=TZ) zBu r0 p1 p2
  cases i3 with
  |cons a1 i3=>
  cases i3 with
  |cons a2 i3=>
  cases i3
  obtain ⟨y,hy,rfl⟩:=ptr_ex a1
  have e:=intE a2
  subst e
  exact ⟨x,y,i1,hy,i2⟩
 have node:∀ {i:Nat},swM[i]? = some (.cells true [.nilslice,.nilslice,.nilslice])→∃ x:Img,Φ (3+i)=some x∧zAi (zAk w') x [nilS,nilS,nilS]:=fun {i} hi=>by
  obtain ⟨p1,p2⟩:=zAv (b0:=b00) hlenM hi
  obtain ⟨x,us,i1,i2,i3⟩:=ZBd (P:=TZ) zBu r0 p1 p2
  cases i3 with
  |cons a1 i3=>
  cases i3 with
  |cons a2 i3=>
  cases i3 with
  |cons a3 i3=>
  cases i3
  cases a1
  cases a2
  cases a3
  exact ⟨x,i1,i2⟩
 obtain ⟨t1,n1,ht1,hn1,ct1⟩:=tree (i:=9) (q:=13) rfl
 obtain ⟨t2,n2,ht2,hn2,ct2⟩:=tree (i:=11) (q:=15) rfl
 obtain ⟨n1',hn1',cn1⟩:=node (i:=10) rfl
 obtain ⟨n2',hn2',cn2⟩:=node (i:=12) rfl
 have e1:n1'=n1:=by
  have:some n1'=some n1:=hn1'.symm.trans hn1
  cases this; rfl
 have e2:n2'=n2:=by
  have:some n2'=some n2:=hn2'.symm.trans hn2
  cases this; rfl
 subst e1
 subst e2
 obtain ⟨xT,us,iT,cT,rT⟩:∃ x us,Φ (3+6)=some x∧zAi (zAk w') x us∧us=[ptrV t1,ptrV t2]:=by
  obtain ⟨p1,p2⟩:=zAv (b0:=b00) hlenM (i:=6) (b:=.cells true [.ptr 12 0,.ptr 14 0]) rfl
  obtain ⟨x,us,i1,i2,i3⟩:=ZBd (P:=TZ) zBu r0 p1 p2
  cases i3 with
  |cons a1 i3=>
  cases i3 with
  |cons a2 i3=>
  cases i3
  obtain ⟨y1,hy1,rfl⟩:=ptr_ex a1
  obtain ⟨y2,hy2,rfl⟩:=ptr_ex a2
  have g1:some y1=some t1:=hy1.symm.trans ht1
  have g2:some y2=some t2:=hy2.symm.trans ht2
  cases g1
  cases g2
  exact ⟨x,_,i1,i2,rfl⟩
 subst rT
 let own:Nat→Nat:=fun b=>if b<w.heap.size∨b=t1.1∨b=n1'.1∨b=t2.1∨b=n2'.1 then 0 else 1
 have own0:∀ b,b<w.heap.size→own b=0:=fun b hb=>if_pos (.inl hb)
 have own01:∀ b,own b=0∨own b=1:=fun b=>by
  show (if _ then 0 else 1)=0∨(if _ then 0 else 1)=1
  split
  · exact .inl rfl
  · exact .inr rfl
 have hat:∀ i,i<9→zAj (mapW 2 0 [3,4,5,6,7,8,9,10,11]) Φ (3+i)=Φ (3+i):=fun i hi=>by
  refine ZAo (σ:=mapW 2 0 [3,4,5,6,7,8,9,10,11]) (i:=i) rfl ?_
  match i,hi with
  |0,_=>rfl
  |1,_=>rfl
  |2,_=>rfl
  |3,_=>rfl
  |4,_=>rfl
  |5,_=>rfl
  |6,_=>rfl
  |7,_=>rfl
  |8,_=>rfl
 let g:Nat→Value:=fun j=>if j=1 then ptrV t1 else if j=2 then ptrV t2 else nilS
 have hg:∀ j,(g j).oneCell'=true:=fun j=>by
  show (if _ then _ else _:Value).oneCell'=true
  repeat' split
  all_goals rfl
 have trees:∀ (κ:Bool) (t n:Img),zAi (zAk w') t [ptrV n,.int .i64 0]→zAi (zAk w') n [nilS,nilS,nilS]→own t.1=0→own n.1=0→TreeAt κ [] own w' (ptrV t):=fun κ t n h1 h2 h3 h4=>by
  have hin:∀ b,b=t.1∨b=n.1→(fun b=>if b=t.1∨b=n.1 then w'.heap[b]? else none:Heap) b=w'.heap[b]?:=fun b hb=>if_pos hb
  refine ⟨fun b=>if b=t.1∨b=n.1 then w'.heap[b]? else none,t,ptrV n,_,fun b o hb=>?_,fun b o hb=>?_,rfl,h1.at_ (hin _ (.inl rfl)),tree_nilW (h2.at_ (hin _ (.inr rfl)))⟩
  · have hb':(if b=t.1∨b=n.1 then w'.heap[b]? else none)=some o:=hb
    by_cases e:b=t.1∨b=n.1
    · rw[if_pos e] at hb'; exact hb'
    · rw[if_neg e] at hb'; cases hb'
  · have hb':(if b=t.1∨b=n.1 then w'.heap[b]? else none)=some o:=hb
    by_cases e:b=t.1∨b=n.1
    · rcases e with e|e<;>rw[e]
      · exact h3
      · exact h4
    · rw[if_neg e] at hb'; cases hb'
 have rT:∀ (f:Nat→Value) (hf:∀ j,(f j).oneCell'=true),(∀ j,j≤2→f j=g j)→@Rel (tokX [] 1 stoNil f hf) TZ (zAj (mapW 2 0 [3,4,5,6,7,8,9,10,11]) Φ) (zAe 2 0 b00 (swL 0 [])) w':=fun f hf hff=>by
  let Tf:Tok:=tokX [] 1 stoNil f hf
  have r1:=(abs f hf).1
  have w1:Tf.val 1=ptrV t1:=by show valF f [] 1=_; rw[zCx (by decide),hff 1 (by decide)]; rfl
  have w2:Tf.val 2=ptrV t2:=by show valF f [] 2=_; rw[zCx (by decide),hff 2 (by decide)]; rfl
  have r2:=retok (T:=Tf) r1 (by show 3+13≤65536; decide) (i:=6) (cs:=[.ptr 12 0,.ptr 14 0]) rfl iT cT (cs':=[.opq 1,.opq 2]) (@zAa.cons Tf _ _ _ _ _ (by rw[← w1]; exact @VRel.opq Tf _ 1) (@zAa.cons Tf _ _ _ _ _ (by rw[← w2]; exact @VRel.opq Tf _ 2) (@zAa.nil Tf _))) (fun v hv=>by
   simp only[List.mem_cons,List.not_mem_nil,or_false] at hv
   rcases hv with rfl|rfl<;>rfl)
  exact (canonW (rows:=[]) (next:=1) (hok:=stoNil) (f:=f) (f':=f) (hf:=hf) (hf':=hf) (κ:=2) (fun _ _=>rfl) r2 swT_run).1
 refine ⟨own,own0,_,x3,g,(hat 0 (by decide)).trans hx3,rfl,⟨fun p b o s' _ _ _=>own01 b,fun p b o s' hp hw hφ=>?_⟩,hg,fun i hi=>?_,rT⟩
 · have hp':p<12:=hp
   have key:∀ i bk,swM[i]? = some bk→bk.live=true→bk.wr=true→Φ (3+i)=some (b,o,s')→(3+i≠12∧3+i≠13∧3+i≠14∧3+i≠15)→own b=1:=fun i bk hi hl hwr hφ hne=>by
    have hge:=old i b bk o s' hi hl hφ
    obtain ⟨p1,p2⟩:=zAv (b0:=b00) hlenM hi
    have apart:∀ {q:Nat} {x:Img} {bq:Blk},swM[q]? = some bq→bq.live=true→3+i≠3+q→Φ (3+q)=some x→b≠x.1:=fun {q x bq} hq hlq hne hx=>by
     obtain ⟨q1,q2⟩:=zAv (b0:=b00) hlenM hq
     exact img_ne (T:=T0) (x:=(b,o,s')) (y:=x) r0 hne p1 q1 (by rw[p2]; exact hwr) (by rw[q2]; exact hlq) hφ hx
    refine if_neg ?_
    rintro (e|e|e|e|e)
    · omega
    · exact apart (q:=9) rfl rfl hne.1 ht1 e
    · exact apart (q:=10) rfl rfl hne.2.1 hn1 e
    · exact apart (q:=11) rfl rfl hne.2.2.1 ht2 e
    · exact apart (q:=12) rfl rfl hne.2.2.2 hn2 e
   rcases swL0_wr hp' hw with rfl|rfl
   · exact key 2 _ rfl rfl rfl ((hat 2 (by decide)).symm.trans hφ) (by decide)
   · exact key 5 _ rfl rfl rfl ((hat 5 (by decide)).symm.trans hφ) (by decide)
 · match i,hi with
   |0,_=>exact trees true t1 n1' ct1 cn1 (if_pos (.inr (.inl rfl))) (if_pos (.inr (.inr (.inl rfl))))
   |1,_=>exact trees false t2 n2' ct2 cn2 (if_pos (.inr (.inr (.inr (.inl rfl))))) (if_pos (.inr (.inr (.inr (.inr rfl)))))
end Go.AM
namespace Go.AM
open Go.Proofs
def nmRun:Bool:=match K0 16 [.opq 10,.opq 15] (zAe 2 0 .none []) with
 | .ok v m=>and (absN (zAx 2 [nmOf v]) 4 (.slice 3 0 2 2 true 3) v) (zAp (zAx 2 [nmOf v]) 0 .none [.cells true [.int .i64 2,.opq 10,.str [],.int .i64 2,.opq 15,.str []]] m)
 |_=>false
def numRun:Bool:=match K0 18 [.opq 10] (zAe 2 0 .none []) with
 | .ok v _=>aeqN 3 v (.agg [.int .i64 2,.opq 10,.str []])
 |_=>false
def rowA (a b:Nat):List AVal:=[.int .i64 2,.int .i64 (numZ a),.str [],.int .i64 2,.int .i64 (.ofNat b),.str []]
def vlRun (a b:Nat):Bool:=match K0 20 [.slice 3 0 2 2 false 3,.slice 4 0 2 2 true 3] (zAe 2 0 .none [.cells true (rowA a b),.cells true (rowA a b)]) with
 | .ok (.bool b) _=>b
 |_=>false
def clRun:Bool:=match K0 11 [.iface 118 (.ptr 3 0)] (zAe 2 0 b00 errP) with
 | .ok v _=>aeqN 2 v (.int .i64 40)
 |_=>false
def vlC (c:Nat):Bool:=(List.range 16).all fun a=>and (and (vlRun (Nat.add (Nat.mul 16 c) a) 0) (vlRun (Nat.add (Nat.mul 16 c) a) 1)) (vlRun (Nat.add (Nat.mul 16 c) a) 2)
theorem nm_run:nmRun=true:=by kernel_rfl
theorem num_run:numRun=true:=by kernel_rfl
theorem cl_run:clRun=true:=by kernel_rfl
theorem vl_all:((List.range 16).all vlC)=true:=by kernel_rfl
theorem vl_at {a b:Nat} (ha:a<256) (hb:b<3):vlRun a b=true:=by
 have h1:=List.all_eq_true.1 vl_all (a / 16) (List.mem_range.2 (by omega))
 unfold vlC at h1
 have h2:=List.all_eq_true.1 h1 (a % 16) (List.mem_range.2 (by omega))
 have e:Nat.add (Nat.mul 16 (a / 16)) (a % 16)=a:=by show 16*(a / 16)+a % 16=a; omega
 rw[e] at h2
 simp only[Bool.and_eq_true] at h2
 match b,hb with
 |0,_=>exact h2.1.1
 |1,_=>exact h2.1.2
 |2,_=>exact h2.2
def nVals (x y:Int) (j:Nat):Value:=if j=10 then .int .i64 x else .int .i64 y
theorem nVals_cell (x y:Int) (j:Nat):(nVals x y j).oneCell'=true:=by
 unfold nVals
 split<;>rfl
theorem nil_wr:∀ q,q<(zAe 2 0 .none []).next→((zAe 2 0 .none []).get q).wr=false:=zCc (by decide) (by decide) rfl fun b hb=>by cases hb
theorem nums_ok {w:World} (hgs:2≤w.heap.size) {x y:Int}:Ends TZ 16 #[.int .i64 x,.int .i64 y] w fun cv w'=>ZAb w w'∧∃ xv:Img,cv=.slice (some ⟨xv.1,xv.2.1,none⟩) 2 2∧xv.2.1+6≤xv.2.2∧w.heap.size≤xv.1∧zAi (zAk w') xv [.int .i64 2,.int .i64 x,.string ByteArray.empty,.int .i64 2,.int .i64 y,.string ByteArray.empty]:=by
 let T:Tok:=tokH noH (nVals x y) (nVals_cell x y)
 have hr:@Rel T TZ (ZAh 2 []) (zAe 2 0 .none []) w:=none_rel hgs fun b o h=>by cases h
 have hrun:=nm_run
 unfold nmRun at hrun
 split at hrun
 rotate_left
 · cases hrun
 rename_i v m hq
 rw[Bool.and_eq_true] at hrun
 obtain ⟨hz,habs⟩:=hrun
 refine (@ZBt T 16 _ _ _ _ hq _ w #[.int .i64 x,.int .i64 y] hr (@zAa.cons T _ _ _ _ _ (@VRel.opq T _ 10) (@zAa.cons T _ _ _ _ _ (@VRel.opq T _ 15) (@zAa.nil T _)))).mono fun cv w' ⟨φ',hst,hv⟩=>⟨ZAb.of hst nil_wr,?_⟩
 obtain ⟨r1,r2⟩:=idAbs (T:=T) rfl (@Step.rel T TZ _ _ _ _ _ _ hst) habs
 obtain ⟨a1,a2⟩:=zAv (b0:=.none) (l:=[.cells true [.int .i64 2,.opq 10,.str [],.int .i64 2,.opq 15,.str []]]) (by show 2+1+1≤65536; decide) (i:=0) rfl
 obtain ⟨xv,us,i1,i2,i3⟩:=ZBd (P:=TZ) zBu r1 a1 a2
 have hcv:=slice_isX (by decide) (r2 _ _ hz _ hv) i1
 obtain ⟨c1,c2,c3,c4,c5,c6,rfl,h1,h2,h3,h4,h5,h6⟩:=vsB i3
 have e1:=intE h1
 have e4:=intE h4
 have e2:=ZAw h2
 have e5:=ZAw h5
 have e3:=strE h3
 have e6:=strE h6
 subst e1
 subst e4
 subst e2
 subst e5
 subst e3
 subst e6
 refine ⟨xv,hcv,?_,?_,i2⟩
 · obtain ⟨c,el,fz,_,g2,g3,_⟩:=i2
   rw[g2]; exact g3
 · rcases Nat.lt_or_ge xv.1 w.heap.size with hb|hb
   rotate_left
   · exact hb
   obtain ⟨w1,w2,w3⟩:=abs_at (σ:=zAx 2 [nmOf v]) (m:=m) (b0:=.none) (L:=[.cells true [.int .i64 2,.opq 10,.str [],.int .i64 2,.opq 15,.str []]]) rfl habs (j:=0) rfl rfl
   have i1':φ' (nmOf v)=some xv:=by
    have:=ZAo (σ:=zAx 2 [nmOf v]) (φ:=φ') (i:=0) rfl rfl
    exact this.symm.trans i1
   obtain ⟨q,o'',s'',g1,g2,g3⟩:=@Step.img T TZ _ _ _ _ _ _ hst _ xv.1 xv.2.1 xv.2.2 (show 3≤_ from w1) w2 (ZCf w3 rfl) i1' hb
   rw[nil_wr q g1] at g2; cases g2
theorem num_ok {w:World} (hgs:2≤w.heap.size) {x:Int}:Ends TZ 18 #[.int .i64 x] w fun cv w'=>cv=.agg #[.int .i64 2,.int .i64 x,.string ByteArray.empty]∧ZAb w w':=by
 let T:Tok:=tokH noH (nVals x x) (nVals_cell x x)
 have hr:@Rel T TZ (ZAh 2 []) (zAe 2 0 .none []) w:=none_rel hgs fun b o h=>by cases h
 have hrun:=num_run
 unfold numRun at hrun
 split at hrun
 rotate_left
 · cases hrun
 rename_i v m hq
 have e:=@ZAf tok0 3 _ _ hrun
 subst e
 refine (@ZBt T 18 _ _ _ _ hq _ w #[.int .i64 x] hr (@zAa.cons T _ _ _ _ _ (@VRel.opq T _ 10) (@zAa.nil T _))).mono fun cv w' ⟨φ',hst,hv⟩=>⟨?_,ZAb.of hst nil_wr⟩
 cases hv with
 |agg _ cs hcs hcc=>
 generalize hcl:cs.toList=L at hcs
 cases hcs with
 |cons h1 hcs=>
 cases hcs with
 |cons h2 hcs=>
 cases hcs with
 |cons h3 hcs=>
 cases hcs
 rw[show cs=cs.toList.toArray by simp,hcl,intE h1,ZAw h2,strE h3]
 rfl
theorem rowA_rel {T:Tok} {φ:Phi} {r:RowW}:@zAa T φ (rowA r.a r.b) (zBn r):=by
 have e:(Int.ofNat r.b)=numZ (128+r.b):=by
  unfold numZ
  rw[Int.subNatNat_eq_coe]
  show (r.b:Int)=_
  omega
 unfold rowA zBn
 rw[← e]
 exact @zAa.cons T _ _ _ _ _ (@VRel.int T _ .i64 2) (@zAa.cons T _ _ _ _ _ (@VRel.int T _ .i64 _) (@zAa.cons T _ _ _ _ _ str0X (@zAa.cons T _ _ _ _ _ (@VRel.int T _ .i64 2) (@zAa.cons T _ _ _ _ _ (@VRel.int T _ .i64 _) (@zAa.cons T _ _ _ _ _ str0X (@zAa.nil T _))))))
theorem rowA_cell {a b:Nat}:∀ v,v∈rowA a b→v.isCell=true:=fun v hv=>by
 unfold rowA at hv
 simp only[List.mem_cons,List.not_mem_nil,or_false] at hv
 rcases hv with rfl|rfl|rfl|rfl|rfl|rfl<;>rfl
theorem values_ok {w:World} (hgs:2≤w.heap.size) {r:RowW} (hok:RowWOk r) {vv:Value} (hvv:ZAk (zAk w) 3 vv 2 (zBn r)) {xv:Img} (hx:zAi (zAk w) xv (zBn r)) (hxs:xv.2.1+6≤xv.2.2) :
 Ends TZ 20 #[vv,.slice (some ⟨xv.1,xv.2.1,none⟩) 2 2] w fun cv w'=>cv=.bool true∧ZAb w w':=by
 let T:Tok:=tokN
 obtain ⟨y,hy,hyv⟩:=row_rel (T:=T) (by decide:0<2) hvv
 have hr:=ro2 (T:=T) (fun _=>rfl) hgs (cs:=rowA r.a r.b) (ds:=rowA r.a r.b) hy hx (fun φ _ _=>rowA_rel) (fun φ _ _=>rowA_rel) rowA_cell rowA_cell
 have hrun:=vl_at hok.a hok.b
 unfold vlRun at hrun
 split at hrun
 rotate_left
 · cases hrun
 rename_i b m hq
 subst hrun
 refine (@ZBt T 20 _ _ _ _ hq _ w #[vv,.slice (some ⟨xv.1,xv.2.1,none⟩) 2 2] hr (@zAa.cons T _ _ _ _ _ (hyv _ 3 rfl) (@zAa.cons T _ _ _ _ _ (@VRel.slice T _ 4 0 2 2 true 3 xv.1 xv.2.1 xv.2.2 xv.2.1 2 rfl (Nat.le_refl _) (Nat.le_refl _) (fun _=>rfl) (fun _=>rfl) (by omega)) (@zAa.nil T _)))).mono fun cv w' ⟨φ',hst,hv⟩=>⟨?_,ZAb.of hst ro2_wr⟩
 cases hv; rfl
theorem class_ok {w:World} (h:G0 w) {own:Nat→Nat} {tag:Nat} {e:Value} (he:ErrX own tag w e):Ends TZ 11 #[e] w fun cv w'=>cv=.int .i64 40∧ZAb w w':=by
 obtain ⟨x1,v1,rfl,hc,hv1,_⟩:=he
 obtain ⟨h2,c,el,fz,h0,hc0⟩:=h
 let T:Tok:=tokH noH (fun _=>nilS) (fun _=>rfl)
 have hr0:@Rel T TZ (phi0 c.size) (zAe 2 0 b00 []) w:=rel0 (T:=T) rfl rfl ZAa h0 hc0 h2
 obtain ⟨φ1,ex1,p1,r1,_⟩:=add_ro (T:=T) (own:=fun _=>0) (tag:=1) (fun _=>rfl) hr0 ⟨fun p b o s _ _ _=>.inl rfl,fun p b o s hp hw _=>by have h':=m00_wr p hp; rw[show ((m00 2 0 b00).get p).wr=true from hw] at h'; cases h'⟩ (by decide) (cs:=[.str [114,111,119],.iface 101 (.int .i64 40)]) hc (fun φ' _=>@zAa.cons T _ _ _ _ _ (hv1 T φ') (@zAa.cons T _ _ _ _ _ (@VRel.iface T _ 101 _ _ (@VRel.int T _ .i64 40)) (@zAa.nil T _))) (fun v hv=>by
  simp only[List.mem_cons,List.not_mem_nil,or_false] at hv
  rcases hv with rfl|rfl<;>rfl) rfl (by decide)
 have hrun:=cl_run
 unfold clRun at hrun
 split at hrun
 rotate_left
 · cases hrun
 rename_i v m hq
 have e:=@ZAf tok0 2 _ _ hrun
 subst e
 refine (@ZBt T 11 _ _ _ _ hq φ1 w #[.iface 118 (ptrV x1)] r1 (@zAa.cons T _ _ _ _ _ (@VRel.iface T _ 118 _ _ (@VRel.ptr T _ 3 0 x1.1 x1.2.1 x1.2.2 p1)) (@zAa.nil T _))).mono fun cv w' ⟨φ',hst,hv⟩=>⟨intE hv,ZAb.of hst (zCc (by decide) (by decide) rfl fun b hb=>by
  cases hb with
  |head=>rfl
  |tail _ h=>cases h)⟩
end Go.AM
namespace Go.AM
open Go.Proofs
def cdE:Code→Code
 | .cond _ _ b=>b
 |c=>c
def BZ5:Code:=bodyOf TZ 5
def OL0:Array Oper:=opsOf (sl BZ5)
def OL1:Array Oper:=opsOf (sl (sl (sr BZ5)))
def CL2:Code:=cdT (sr (sl (sr BZ5)))
def T5:Code:=sr (sr BZ5)
def OL3:Array Oper:=opsOf (sl (sl T5))
def OL4:Array Oper:=opsOf (sl (cdT (sr (sl T5))))
def U5:Code:=sr T5
def OL5:Array Oper:=opsOf (sl U5)
def OL6:Array Oper:=opsOf (sl (sl (sr U5)))
def CL7:Code:=cdT (sr (sl (sr U5)))
def OL8:Array Oper:=opsOf (sl (sr (sr U5)))
def V5:Code:=sr (sr (sr U5))
def OL9:Array Oper:=opsOf (sl (sl V5))
def LB1:Code:=loopOf' (sr (sl V5))
def OL10:Array Oper:=opsOf (sl (sl LB1))
def BD1:Code:=blkOf' (sl (sr LB1))
def OL11:Array Oper:=opsOf (sr (sr LB1))
def OL12:Array Oper:=opsOf (sl (sl BD1))
def CL13:Code:=cdT (sr (sl BD1))
def OL14:Array Oper:=opsOf (sr BD1)
def W5:Code:=sr V5
def OL15:Array Oper:=opsOf (sl (sl W5))
def LB2:Code:=loopOf' (sr (sl W5))
def OL16:Array Oper:=opsOf (sl (sl LB2))
def BD2:Code:=blkOf' (sl (sr LB2))
def OL17:Array Oper:=opsOf (sr (sr LB2))
def OL18:Array Oper:=opsOf (sl BD2)
def OL19:Array Oper:=opsOf (sl (sr BD2))
def OL20:Array Oper:=opsOf (sl (sl (sr (sr BD2))))
def CL21:Code:=cdT (sr (sl (sr (sr BD2))))
def OL22:Array Oper:=opsOf (sr (sr (sr BD2)))
def X5:Code:=sr W5
def OL23:Array Oper:=opsOf (sl X5)
def X24:Code:=sr X5
def OL24:Array Oper:=opsOf (sl (sl X24))
def WY:Code:=blkOf' (sr (sl X24))
def OL26:Array Oper:=opsOf (sl WY)
def OL27:Array Oper:=opsOf (cdT (sr WY))
def E28:Code:=cdE (sr WY)
def OL28:Array Oper:=opsOf (sl E28)
def OL29:Array Oper:=opsOf (cdT (sr E28))
def E30:Code:=cdE (sr E28)
def OL30:Array Oper:=opsOf (sl E30)
def OL31:Array Oper:=opsOf (cdT (sr E30))
def OL25:Array Oper:=opsOf (cdE (sr E30))
def X32:Code:=sr X24
def OL32:Array Oper:=opsOf (sl X32)
def X33:Code:=sr X32
def OL33:Array Oper:=opsOf (sl (sl X33))
def CL34:Code:=cdT (sr (sl X33))
def X35:Code:=sr X33
def OL35:Array Oper:=opsOf (sl X35)
def X36:Code:=sr X35
def OL36:Array Oper:=opsOf (sl (sl X36))
def LB3:Code:=loopOf' (sr (sl X36))
def OL37:Array Oper:=opsOf (sl (sl LB3))
def BD3:Code:=blkOf' (sl (sr LB3))
def OL38:Array Oper:=opsOf (sr (sr LB3))
def OL39:Array Oper:=opsOf (sl BD3)
def OL40:Array Oper:=opsOf (sl (sl (sr BD3)))
def BD41:Code:=sr (sr BD3)
def OL41:Array Oper:=opsOf (sl (sl BD41))
def CL42:Code:=cdT (sr (sl BD41))
def OL43:Array Oper:=opsOf (sr BD41)
def OL44:Array Oper:=opsOf (sl (sr X36))
theorem b5_is:BZ5=.seq (.region 0 OL0 false) (.seq (.seq (.region 1 OL1 false) (.cond (.tmp 24) CL2 .skip)) T5):=by kernel_rfl
theorem t5_is:T5=.seq (.seq (.region 3 OL3 false) (.cond (.tmp 32) (.seq (.region 4 OL4 false) .ret) .skip)) U5:=by kernel_rfl
theorem u5_is:U5=.seq (.region 5 OL5 false) (.seq (.seq (.region 6 OL6 false) (.cond (.tmp 35) CL7 .skip)) (.seq (.region 8 OL8 false) V5)):=by kernel_rfl
theorem v5_is:V5=.seq (.seq (.region 9 OL9 false) (.block 0 (.loop LB1))) W5:=by kernel_rfl
theorem lb1_is:LB1=.seq (.seq (.region 10 OL10 false) (.cond (.tmp 39) .skip (.exit 0))) (.seq (.block 1 BD1) (.region 11 OL11 false)):=by kernel_rfl
theorem bd1_is:BD1=.seq (.seq (.region 12 OL12 false) (.cond (.tmp 53) CL13 .skip)) (.region 14 OL14 false):=by kernel_rfl
theorem w5_is:W5=.seq (.seq (.region 15 OL15 false) (.block 2 (.loop LB2))) X5:=by kernel_rfl
theorem lb2_is:LB2=.seq (.seq (.region 16 OL16 false) (.cond (.tmp 65) .skip (.exit 2))) (.seq (.block 3 BD2) (.region 17 OL17 false)):=by kernel_rfl
theorem bd2_is:BD2=.seq (.region 18 OL18 false) (.seq (.region 19 OL19 false) (.seq (.seq (.region 20 OL20 true) (.cond (.tmp 97) CL21 .skip)) (.region 22 OL22 false))):=by kernel_rfl
theorem x5_is:X5=.seq (.region 23 OL23 false) (.seq (.seq (.region 24 OL24 false) (.block 4 WY)) X32):=by kernel_rfl
theorem wy_is:WY=.seq (.region 26 OL26 false) (.cond (.tmp 109) (.region 27 OL27 false) (.seq (.region 28 OL28 false) (.cond (.tmp 116) (.region 29 OL29 false) (.seq (.region 30 OL30 false) (.cond (.tmp 123) (.region 31 OL31 false) (.region 25 OL25 false)))))):=by kernel_rfl
theorem x32_is:X32=.seq (.region 32 OL32 false) (.seq (.seq (.region 33 OL33 false) (.cond (.tmp 142) CL34 .skip)) (.seq (.region 35 OL35 false) (.seq (.seq (.region 36 OL36 false) (.block 5 (.loop LB3))) (.seq (.region 44 OL44 false) .ret)))):=by kernel_rfl
theorem lb3_is:LB3=.seq (.seq (.region 37 OL37 false) (.cond (.tmp 146) .skip (.exit 5))) (.seq (.block 6 BD3) (.region 38 OL38 false)):=by kernel_rfl
theorem bd3_is:BD3=.seq (.region 39 OL39 false) (.seq (.seq (.region 40 OL40 false) (.cond (.tmp 194) (.exit 6) .skip)) (.seq (.seq (.region 41 OL41 true) (.cond (.tmp 226) CL42 .skip)) (.region 43 OL43 false))):=by kernel_rfl
theorem sL0:OL0.size=1∧OL1.size=2∧OL3.size=8∧OL4.size=1∧OL5.size=2∧OL6.size=2∧OL8.size=1∧OL9.size=1:=⟨by kernel_rfl,by kernel_rfl,by kernel_rfl,by kernel_rfl,by kernel_rfl,by kernel_rfl,by kernel_rfl,by kernel_rfl⟩
theorem sL1:OL10.size=4∧OL11.size=3∧OL12.size=12∧OL14.size=4:=⟨by kernel_rfl,by kernel_rfl,by kernel_rfl,by kernel_rfl⟩
theorem sL2:OL15.size=1∧OL16.size=9∧OL17.size=3∧OL18.size=9∧OL19.size=7∧OL20.size=16∧OL22.size=4:=⟨by kernel_rfl,by kernel_rfl,by kernel_rfl,by kernel_rfl,by kernel_rfl,by kernel_rfl,by kernel_rfl⟩
theorem sL3:OL23.size=3∧OL24.size=2∧OL26.size=2∧OL27.size=7∧OL28.size=2∧OL29.size=7∧OL30.size=2∧OL31.size=14∧OL25.size=6∧OL32.size=8:=⟨by kernel_rfl,by kernel_rfl,by kernel_rfl,by kernel_rfl,by kernel_rfl,by kernel_rfl,by kernel_rfl,by kernel_rfl,by kernel_rfl,by kernel_rfl⟩
theorem sL4:OL33.size=2∧OL35.size=1∧OL36.size=1∧OL37.size=4∧OL38.size=3∧OL39.size=45∧OL40.size=2∧OL41.size=32∧OL43.size=3∧OL44.size=5:=⟨by kernel_rfl,by kernel_rfl,by kernel_rfl,by kernel_rfl,by kernel_rfl,by kernel_rfl,by kernel_rfl,by kernel_rfl,by kernel_rfl,by kernel_rfl⟩
def fn5:Func:=(TZ.funcs[5]?).getD default
theorem fn5_is:TZ.funcs[5]? = some fn5:=by kernel_rfl
theorem fn5_body:fn5.body=some BZ5:=by kernel_rfl
theorem fn5_nt:fn5.ntmps=233:=by kernel_rfl
theorem fn5_res:fn5.results.toList=[.tmp 10]:=by kernel_rfl
theorem cL1_0:CallG OL1 0 23 6 [] none:=callG (by kernel_rfl) (by kernel_rfl) (by kernel_rfl) (by kernel_rfl)
theorem cL5_0:CallG OL5 0 33 14 [] none:=callG (by kernel_rfl) (by kernel_rfl) (by kernel_rfl) (by kernel_rfl)
end Go.AM
namespace Go.AM
open Go.Proofs
theorem tz_kw5:TZ.underlying 5=some (.int .u8):=by kernel_rfl
theorem tz_kw2:TZ.underlying 2=some (.int .i64):=by kernel_rfl
theorem tz_k71:TZ.underlying 71=some (.int .i8):=by kernel_rfl
theorem tz_k3:TZ.underlying 3=some (.int .i64):=by kernel_rfl
theorem tz_k59:TZ.underlying 59=some (.int .u64):=by kernel_rfl
section
variable {a:Act} {w:World} {o:Oper}
theorem run_cvI {x:Nat} (h:o.op=.convert 71 2 (.tmp x)) {z:Int} (hz:-128≤z∧z<128) (hx:a.tmps.getD x undef=.int .i8 z):(execOp a.eval o).run TZ w=.ok (.value (.int .i64 z)) w:=by
 have e2:IntKind.wrap .i64 z=z:=by
  simp[IntKind.wrap,IntKind.signed,IntKind.bits]
  omega
 have hs:=tz_k71
 have hd:=tz_kw2
 letI:=tok0
 simp only[execOp,h]
 exact zAg (by simp[Act.eval,hx,convert,run_underlying hs,run_underlying hd,Conv.intToInt,e2])
theorem run_cvB {x:Nat} (h:o.op=.convert 5 3 (.tmp x)) {z:Nat} (hz:z<256) (hx:a.tmps.getD x undef=.int .u8 (z:Int)):(execOp a.eval o).run TZ w=.ok (.value (.int .i64 (z:Int))) w:=by
 have e2:IntKind.wrap .i64 (z:Int)=(z:Int):=by
  simp[IntKind.wrap,IntKind.signed,IntKind.bits]
  omega
 have hs:=tz_kw5
 have hd:=tz_k3
 letI:=tok0
 simp only[execOp,h]
 exact zAg (by simp[Act.eval,hx,convert,run_underlying hs,run_underlying hd,Conv.intToInt,e2])
theorem run_cvU {x:Nat} (h:o.op=.convert 3 59 (.tmp x)) {z:Nat} (hz:z<1000) (hx:a.tmps.getD x undef=.int .i64 (z:Int)):(execOp a.eval o).run TZ w=.ok (.value (.int .u64 (z:Int))) w:=by
 have e2:IntKind.wrap .u64 (z:Int)=(z:Int):=by
  simp[IntKind.wrap,IntKind.signed,IntKind.bits]
  omega
 have hs:=tz_k3
 have hd:=tz_k59
 letI:=tok0
 simp only[execOp,h]
 exact zAg (by simp[Act.eval,hx,convert,run_underlying hs,run_underlying hd,Conv.intToInt,e2])
theorem run_rem3 {x t t2:Nat} (h:o.op=.binOp .rem t (.tmp x) (.const (.int .i64 3)) t2) {z:Nat} (hx:a.tmps.getD x undef=.int .i64 (z:Int)):(execOp a.eval o).run TZ w=.ok (.value (.int .i64 ((z % 3:Nat):Int))) w:=by
 have e:Int.tmod (z:Int) 3=(z:Int) % 3:=Int.tmod_eq_emod_of_nonneg (Int.natCast_nonneg z)
 simp[execOp,h,Act.eval,hx,eqGuard,binOp,Op.intDiv,e]
theorem run_remT {x y t t2:Nat} (h:o.op=.binOp .rem t (.tmp x) (.tmp y) t2) {z n:Nat} (hn:0<n) (hx:a.tmps.getD x undef=.int .i64 (z:Int)) (hy:a.tmps.getD y undef=.int .i64 (n:Int)):(execOp a.eval o).run TZ w=.ok (.value (.int .i64 ((z % n:Nat):Int))) w:=by
 have e:Int.tmod (z:Int) (n:Int)=(z:Int) % (n:Int):=Int.tmod_eq_emod_of_nonneg (Int.natCast_nonneg z)
 have hk2:¬ n=0:=by omega
 simp[execOp,h,Act.eval,hx,hy,eqGuard,binOp,Op.intDiv,e,hk2]
theorem run_bs1 {t e x:Nat} {z:Value} (hu:TZ.underlying t=some (.slice e)) (ht:hasT TZ e=true) (hz:(TZ.info? e).bind (·.zero)=some z) (hs:szOf TZ e=1) (h:o.op=.buildSlice t 1 #[(0,.tmp x)]) {v:Value} (hx:a.tmps.getD x undef=v)
 (hf:Instr.fill (fun i=>some (i*szOf TZ e,szOf TZ e)) (madeCells z.cells (1*szOf TZ e)) [(0,v)]=some #[v]):(execOp a.eval o).run TZ w=.ok (.value (.slice (some ⟨w.heap.size,0,none⟩) 1 1)) (w.alloc (.cells #[v] e)):=by
 letI:=tok0
 simp only[execOp,h]
 refine zAg (@run_buildSlice tok0 TZ t e _ 1 _ _ w hu ht hz (by rw[hs]; decide) ?_)
 simp only[Act.eval,hx,List.map_toArray,List.map_cons,List.map_nil]
 exact hf
end
theorem tz_u51:TZ.underlying 51=some (.slice 49):=by kernel_rfl
theorem tz_u63:TZ.underlying 63=some (.slice 59):=by kernel_rfl
theorem tz_u70:TZ.underlying 70=some (.slice 71):=by kernel_rfl
theorem tz_u72:TZ.underlying 72=some (.slice 4):=by kernel_rfl
theorem fill49 (v:Option Addr) (n c:Nat):Instr.fill (fun i=>some (i*szOf TZ 49,szOf TZ 49)) (madeCells (Value.slice none 0 0).cells (1*szOf TZ 49)) [(0,.slice v n c)]=some #[.slice v n c]:=by kernel_rfl
theorem fill59 (x:Int):Instr.fill (fun i=>some (i*szOf TZ 59,szOf TZ 59)) (madeCells (Value.int .u64 0).cells (1*szOf TZ 59)) [(0,.int .u64 x)]=some #[.int .u64 x]:=by kernel_rfl
theorem tz_z49:(TZ.info? 49).bind (·.zero)=some (.slice none 0 0):=by kernel_rfl
theorem tz_z59:(TZ.info? 59).bind (·.zero)=some (.int .u64 0):=by kernel_rfl
theorem run_bs51 {a:Act} {w:World} {o:Oper} {x:Nat} (h:o.op=.buildSlice 51 1 #[(0,.tmp x)]) {b:Option Addr} {n c:Nat} (hx:a.tmps.getD x undef=.slice b n c):(execOp a.eval o).run TZ w=.ok (.value (.slice (some ⟨w.heap.size,0,none⟩) 1 1)) (w.alloc (.cells #[.slice b n c] 49)):=
 run_bs1 tz_u51 (by kernel_rfl) tz_z49 (by kernel_rfl) h hx (fill49 b n c)
theorem run_bs63 {a:Act} {w:World} {o:Oper} {x:Nat} (h:o.op=.buildSlice 63 1 #[(0,.tmp x)]) {z:Int} (hx:a.tmps.getD x undef=.int .u64 z):(execOp a.eval o).run TZ w=.ok (.value (.slice (some ⟨w.heap.size,0,none⟩) 1 1)) (w.alloc (.cells #[.int .u64 z] 59)):=
 run_bs1 tz_u63 (by kernel_rfl) tz_z59 (by kernel_rfl) h hx (fill59 z)
theorem siz71 (w:World):(sizeOf 71).run TZ w=.ok 1 w:=by
 letI:=tok0
 have h:=zAw (P:=TZ) (t:=71) (by kernel_rfl:hasT TZ 71=true) (w:=w)
 rw[show szOf TZ 71=1 by kernel_rfl] at h; exact h
theorem siz5 (w:World):(sizeOf 5).run TZ w=.ok 1 w:=by
 letI:=tok0
 have h:=zAw (P:=TZ) (t:=5) (by kernel_rfl:hasT TZ 5=true) (w:=w)
 rw[show szOf TZ 5=1 by kernel_rfl] at h; exact h
theorem siz4 (w:World):(sizeOf 4).run TZ w=.ok 1 w:=by
 letI:=tok0
 have h:=zAw (P:=TZ) (t:=4) (by kernel_rfl:hasT TZ 4=true) (w:=w)
 rw[show szOf TZ 4=1 by kernel_rfl] at h; exact h
theorem pl71:plainB 71=true:=by kernel_rfl
theorem pl5:plainB 5=true:=by kernel_rfl
theorem pl4:plainB 4=true:=by kernel_rfl
theorem pl49:plainB 49=true:=by kernel_rfl
theorem l12_3:OpG OL12 3 45 (.indexAddr 70 (.tmp 43) (.tmp 44)) none:=opG (by kernel_rfl) (by kernel_rfl) (by kernel_rfl) (by kernel_rfl)
theorem l12_4:OpG OL12 4 46 (.load 71 (.tmp 45)) none:=opG (by kernel_rfl) (by kernel_rfl) (by kernel_rfl) (by kernel_rfl)
theorem l12_5:OpG OL12 5 47 (.convert 71 2 (.tmp 46)) none:=opG (by kernel_rfl) (by kernel_rfl) (by kernel_rfl) (by kernel_rfl)
theorem l12_7:OpG OL12 7 49 (.binOp .rem 3 (.tmp 48) (.const (.int .i64 3)) 3) none:=opG (by kernel_rfl) (by kernel_rfl) (by kernel_rfl) (by kernel_rfl)
theorem l12_8:CallG OL12 8 50 16 [.tmp 47,.tmp 49] none:=callG (by kernel_rfl) (by kernel_rfl) (by kernel_rfl) (by kernel_rfl)
theorem l12_9:OpG OL12 9 51 (.buildSlice 51 1 #[(0,.tmp 50)]) none:=opG (by kernel_rfl) (by kernel_rfl) (by kernel_rfl) (by kernel_rfl)
theorem l12_10:CallG OL12 10 52 10 [.tmp 42,.const (.int .i64 0),.const (.slice none 0 0),.const (.slice none 0 0),.tmp 51] none:=callG (by kernel_rfl) (by kernel_rfl) (by kernel_rfl) (by kernel_rfl)
theorem l11_1:OpG OL11 1 41 (.binOp .add 3 (.tmp 40) (.const (.int .i64 1)) 3) none:=opG (by kernel_rfl) (by kernel_rfl) (by kernel_rfl) (by kernel_rfl)
theorem l6_1:OpG OL6 1 35 (.binOp .eql 24 (.tmp 34) (.const (.pointer none)) 24) none:=opG (by kernel_rfl) (by kernel_rfl) (by kernel_rfl) (by kernel_rfl)
end Go.AM
namespace Go.AM
open Go.Proofs
def outB (m:Nat):AVal:=match m with
 |0=>.nilslice
 |k+1=>.slice 3 0 (Nat.succ k) (Nat.succ k) false 1
def outBL (m:Nat):List Blk:=match m with
 |0=>[]
 |k+1=>[.cells false (oqs (Nat.succ k) 100)]
def abRun (m:Nat):Bool:=
 match zCg TZ 233 K0 OL14 OL14.toList [(12,outB m)] [12] (zAe 2 0 .none (outBL m)) with
 | .ok (.tuple [x]) mf=>and (absN (zAx 2 [nmOf x]) 4 (.slice 3 0 (Nat.succ m) (Nat.succ m) false 1) x) (zAp (zAx 2 [nmOf x]) 0 .none [.cells false (appV (oqs m 100) [.bool true])] mf)
 |_=>false
def setV (k:Nat) (v:AVal):List AVal→List AVal
 | []=>[]
 |x::l=>match k with
  |0=>v::l
  |j+1=>x::setV j v l
def sbRun (m k:Nat):Bool:=
 match zCg TZ 233 K0 OL22 OL22.toList [(12,.slice 3 0 m m false 1),(15,.int .i64 (.ofNat k))] [12] (zAe 2 0 .none [.cells false (oqs m 100)]) with
 | .ok (.tuple [_]) mf=>zAp (zAx 2 [3]) 0 .none [.cells false (setV k (.bool false) (oqs m 100))] mf
 |_=>false
def sbRow (m:Nat):Bool:=allLt (sbRun m) m
theorem ab_all:allLt abRun 50=true:=by kernel_rfl
theorem sb_all:allLt sbRow 51=true:=by kernel_rfl
end Go.AM
namespace Go.AM
open Go.Proofs
def ZCq (lv:List Bool):List Value:=lv.map Value.bool
theorem boolsV_len (lv:List Bool):(ZCq lv).length=lv.length:=List.length_map _
theorem boolsV_cell {lv:List Bool} {u:Value} (h:u∈ZCq lv):u.oneCell'=true:=by
 obtain ⟨b,_,rfl⟩:=List.mem_map.1 h; rfl
def ZBq (own:Nat→Nat) (w:World) (sv:Value) (lv:List Bool):Prop:=
 (lv=[]∧sv=nilS)∨∃ (xl:Img) (cap:Nat),lv≠[]∧sv=.slice (some ⟨xl.1,xl.2.1,none⟩) lv.length cap∧lv.length≤cap∧xl.2.1+cap*1≤xl.2.2∧WRow w xl (ZCq lv)∧own xl.1=2
theorem WRow.at_ {w w':World} {x:Img} {vs:List Value} (h:WRow w x vs) (e:w'.heap[x.1]? = w.heap[x.1]?):WRow w' x vs:=by
 obtain ⟨c,el,fz,h1,h2⟩:=h
 exact ⟨c,el,fz,e.trans h1,h2⟩
theorem ZBq.move {own own':Nat→Nat} {w w':World} {sv:Value} {lv:List Bool} {t:Nat} (h:ZBq own w sv lv) (hg:OGo t own w own' w') (ht:t≠2):ZBq own' w' sv lv:=by
 rcases h with h|⟨xl,cap,h1,h2,h3,h4,h5,h6⟩
 · exact .inl h
 · exact .inr ⟨xl,cap,h1,h2,h3,h4,h5.at_ (hg.1.1 _ h5.lt (by rw[h6]; exact fun e=>ht e.symm)),(hg.2 _ h5.lt).trans h6⟩
theorem ZBq.cell {own:Nat→Nat} {w:World} {sv:Value} {lv:List Bool} (h:ZBq own w sv lv) {k:Nat} {b:Bool} (hk:lv[k]? = some b):∃ (ad:Addr) (cap:Nat),sv=.slice (some ad) lv.length cap∧w.cell? (ad.add (k*1))=some (.bool b)∧ad.block<w.heap.size∧own ad.block=2:=by
 rcases h with ⟨h,_⟩|⟨xl,cap,h1,h2,h3,h4,h5,h6⟩
 · rw[h] at hk; cases hk
 · refine ⟨⟨xl.1,xl.2.1,none⟩,cap,h2,?_,h5.lt,h6⟩
   have hj:(ZCq lv)[k]? = some (.bool b):=by
    unfold ZCq
    rw[List.getElem?_map,hk]; rfl
   have:=cell_of (H:=zAk w) (w:=w) (fun b o h=>h) h5.cells hj
   rw[Nat.mul_one]
   have e:(⟨xl.1,xl.2.1,none⟩:Addr).add k=⟨xl.1,xl.2.1+k,none⟩:=by
    unfold Addr.add
    split
    · rename_i h
      subst h; rfl
    · rfl
   rw[e]; exact this
theorem ogo_new {own:Nat→Nat} {w w':World} (t n:Nat) (hl:ZAb w w'):OGo t own w (extO own w n) w':=⟨LeftO.of hl,fun _ hb=>extO_lt hb⟩
def bVals (vs:List Value) (j:Nat):Value:=((vs[j-100]?).getD nilS)
theorem bVals_cell {vs:List Value} (h:∀ u,u∈vs→u.oneCell'=true) (j:Nat):(bVals vs j).oneCell'=true:=by
 unfold bVals
 cases hj:vs[j-100]? with
 |none=>rfl
 |some x=>exact h x (List.mem_of_getElem? hj)
theorem bVals_at {vs:List Value} {j:Nat} {u:Value} (h:vs[j]? = some u):bVals vs (100+j)=u:=by
 unfold bVals
 rw[show 100+j-100=j by omega,h]; rfl
theorem gOL14:OL14.toList.all (ZBo TZ.globals.size)=true:=by kernel_rfl
theorem gOL22:OL22.toList.all (ZBo TZ.globals.size)=true:=by kernel_rfl
theorem lOL14:OL14.toList.length=4:=by kernel_rfl
theorem lOL22:OL22.toList.length=4:=by kernel_rfl
theorem tOL14:(OL14.toList.drop 0).take OL14.toList.length=OL14.toList:=by kernel_rfl
theorem tOL22:(OL22.toList.drop 0).take OL22.toList.length=OL22.toList:=by kernel_rfl
theorem bool_rel {own:Nat→Nat} {w:World} (hgs:2≤w.heap.size) {sv:Value} {lv:List Bool} (hB:ZBq own w sv lv) (T:Tok) (hT:T.hold=noH) (hst:T.strong=false) (ht:∀ j u,(ZCq lv)[j]? = some u→T.val (100+j)=u) :
 ∃ φ0:Phi,@Rel T TZ φ0 (zAe 2 0 .none (outBL lv.length)) w∧@VRel T φ0 (outB lv.length) sv∧∀ q b o s,q<(zAe 2 0 .none (outBL lv.length)).next→((zAe 2 0 .none (outBL lv.length)).get q).wr=true→φ0 q=some (b,o,s)→own b=2∧∃ o cap,sv=.slice (some ⟨b,o,none⟩) lv.length cap:=by
 have hflat:∀ φ,@zAa T φ (oqs lv.length 100) (ZCq lv):=fun φ=>by
  have:=ZCx (T:=T) (φ:=φ) (ZCq lv) 100 ht
  rwa [boolsV_len] at this
 rcases hB with ⟨q1,q2⟩|⟨xo,cap,q1,q2,q3,q4,q5,q6⟩
 · subst q1
   subst q2
   exact ⟨ZAh 2 [],none_rel (T:=T) hgs (fun b o h=>by rw[hT] at h; cases h),@VRel.nilslice T _,fun q b o s hq hw _=>by have h:=hw.symm.trans (none_ro q hq); cases h⟩
 · obtain ⟨k,hk⟩:∃ k,lv.length=k+1:=⟨lv.length-1,by have:=List.length_pos_iff.2 q1; omega⟩
   have f3:ZAh 2 [xo] 3=some xo:=rfl
   have eL:outBL lv.length=[.cells false (oqs lv.length 100)]:=by rw[hk]; rfl
   have eA:outB lv.length=.slice 3 0 lv.length lv.length false 1:=by rw[hk]; rfl
   have hfl:=hflat (ZAh 2 [xo])
   rw[eL,eA]
   refine ⟨ZAh 2 [xo],?_,?_,fun q b o s hq hw hφ=>?_⟩
   · refine mkRelW ZAa (by decide) hgs rfl (by show 2+1+1≤65536; decide) (fun i b z hb hw hz=>?_) (fun z hz=>?_) (fun i b hb=>?_) (fun b o h=>by rw[hT] at h; cases h)
     · refine ⟨by rw[hT]; rfl,fun j z' hz' hj=>?_⟩
       have h1:=zAf hz
       have h2:=zAf hz'
       simp at h1 h2
       omega
     · rw[List.mem_singleton] at hz
       subst hz
       exact q5.lt
     · match i,hb with
       |0,hb=>
        cases hb
        exact q5.brel (T:=T) hst f3 hfl (fun v hv=>zBp (zCf hv))
       |i+1,hb=>simp at hb
   · rw[q2]
     exact @VRel.slice T _ 3 0 lv.length lv.length false 1 xo.1 xo.2.1 xo.2.2 xo.2.1 cap f3 (Nat.le_refl _) q3 (fun h=>by cases h) (fun _=>rfl) q4
   · have hn:(zAe 2 0 .none [Blk.cells false (oqs lv.length 100)]).next=4:=ZAt _ _
     rw[hn] at hq
     rw[zAu (by decide) (by show 2+1+1≤65536; decide) (by omega)] at hw
     match q,hq with
     |0,_=>cases hw
     |1,_=>cases hw
     |2,_=>cases hw
     |3,_=>rw[f3] at hφ; cases hφ; exact ⟨q6,o,cap,q2⟩
theorem ogo_two {own:Nat→Nat} {T:Tok} {φ φ':Phi} {m m':Mem} {w w':World} (hst:@Step T TZ φ m w φ' m' w') (h:∀ q b o s,q<m.next→(m.get q).wr=true→φ q=some (b,o,s)→own b=2):OGo 2 own w (extO own w 2) w':=
 ⟨⟨fun b hb hne=>@Step.frame T TZ _ _ _ _ _ _ hst b hb fun q o s hq hw hφ=>hne (h q b o s hq hw hφ),@Step.size T TZ _ _ _ _ _ _ hst,@Step.os T TZ _ _ _ _ _ _ hst,@Step.out T TZ _ _ _ _ _ _ hst,@Step.tape T TZ _ _ _ _ _ _ hst⟩,fun _ hb=>extO_lt hb⟩
theorem drop_rel {T:Tok} {φ:Phi}:∀ (l:List AVal) {l':List AVal} {vs:List Value},@zAa T φ (l++l') vs→@zAa T φ l' (vs.drop l.length)
 | [],_,_,h=>h
 |z::l,_,_,h=>by
  cases h with
  |cons h1 h2=>exact drop_rel l h2
section
attribute [local irreducible] OL14 OL22
theorem append14 {own:Nat→Nat} {w:World} (hgs:2≤w.heap.size) {sv:Value} {lv:List Bool} (hB:ZBq own w sv lv) (hm:lv.length≤49) {a:Act} {L L':List (Nat×Value)} (ha:zAr 233 L a) (h12:∀ g,setL L g 12=sv) (hk:(L'.all fun p=>keptR OL14.toList p.1)=true) (hsub:∀ g,(L'.map fun p=>setL L g p.1)=L'.map Prod.snd) {Q:Exit→Act→World→Prop}
 (hn:∀ a' w' sv',zAr 233 L' a'→a'.tmps.getD 12 undef=sv'→ZBq (extO own w 2) w' sv' (lv++[true])→OGo 2 own w (extO own w 2) w'→Q .normal a' w'):(Code.region 14 OL14 false).wp TZ Q a w:=by
 refine ZAg sL1.2.2.2 ?_
 have hrun:=zBw ab_all lv.length (by omega)
 unfold abRun at hrun
 split at hrun
 rotate_left
 · cases hrun
 rename_i x mf hq
 rw[Bool.and_eq_true] at hrun
 obtain ⟨hz,habs⟩:=hrun
 let T:Tok:=tokH noH (bVals (ZCq lv)) (bVals_cell fun u hu=>boolsV_cell hu)
 have t100:∀ j u,(ZCq lv)[j]? = some u→T.val (100+j)=u:=fun j u hj=>bVals_at hj
 obtain ⟨φ0,hr,hout,hblk⟩:=bool_rel hgs hB T rfl rfl t100
 have hrange:List.range 4=List.range' 0 OL14.toList.length++[]:=by rw[lOL14]; rfl
 rw[hrange]
 refine vam (T:=T) (@ZBt T) 0 OL14.toList tOL14 gOL14 hq hr (by decide) ha (fun p hp=>?_) L' hk hsub fun φ' a' w' hst ha' hv=>?_
 · rw[List.mem_singleton] at hp
   subst hp
   refine ⟨(by decide:12<4096),?_⟩
   show @VRel T φ0 _ (a.tmps.getD 12 undef)
   rw[ha.get h12]; exact hout
 have rl:=@Step.rel T TZ _ _ _ _ _ _ hst
 obtain ⟨r1,r2⟩:=idAbs (T:=T) rfl rl habs
 have vx:=r2 _ _ hz _ (ZAr hv (i:=0) (t:=12) rfl rfl)
 have hlen1:2+1+([.cells false (appV (oqs lv.length 100) [.bool true])]:List Blk).length≤65536:=by show 2+1+1≤65536; decide
 obtain ⟨c1,c2⟩:=zAv (b0:=.none) hlen1 (i:=0) rfl
 obtain ⟨xo',us,i1,i2,i3⟩:=WRow.of (T:=T) r1 c1 c2
 have hus:us=ZCq (lv++[true]):=by
  rw[appV_eq] at i3
  have h1:=ZCn (T:=T) (oqs lv.length 100).length i3
  rw[List.take_left] at h1
  have h2:=oqs_un (T:=T) (vs:=ZCq lv) (boolsV_len lv) t100 h1
  have h3:=drop_rel _ i3
  rw[← List.take_append_drop (oqs lv.length 100).length us,h2]
  unfold ZCq
  rw[List.map_append]
  congr 1
  generalize us.drop (oqs lv.length 100).length=ds at h3
  cases h3 with
  |cons b1 h3=>
  cases h3
  cases b1; rfl
 subst hus
 have i1':φ' (nmOf x)=some xo':=by
  have:=ZAo (σ:=zAx 2 [nmOf x]) (φ:=φ') (i:=0) rfl rfl
  rw[show 3+0=3 from rfl,i1] at this
  exact this.symm
 have hown:extO own w 2 xo'.1=2:=by
  rcases Nat.lt_or_ge xo'.1 w.heap.size with hb|hb
  rotate_left
  · exact extO_ge hb
  rw[extO_lt hb]
  obtain ⟨w1,w2,w3⟩:=abs_at (σ:=zAx 2 [nmOf x]) rfl habs (j:=0) rfl rfl
  rcases Nat.lt_or_ge (nmOf x) (zAe 2 0 .none (outBL lv.length)).next with hnx|hnx
  · rcases @Step.fresh T TZ _ _ _ _ _ _ hst _ _ i1' with h|h
    · have hwx:(mf.get (nmOf x)).wr=true:=(absB_wr w3).1 rfl
      have hwx0:=@Step.wr T TZ _ _ _ _ _ _ hst _ hnx hwx
      exact (hblk _ _ _ _ hnx hwx0 h).1
    · omega
  · obtain ⟨q,o'',s'',g1,g2,g3⟩:=@Step.img T TZ _ _ _ _ _ _ hst _ xo'.1 xo'.2.1 xo'.2.2 hnx w2 (ZCf w3 rfl) i1' hb
    exact (hblk _ _ _ _ g1 g2 g3).1
 unfold wpOps
 refine hn a' w' _ ha' rfl ?_ (ogo_two hst fun q b o s hq hw hφ=>(hblk q b o s hq hw hφ).1)
 generalize a'.tmps.getD 12 undef=c12 at vx
 cases vx with
 |slice _ _ _ _ _ _ cb co sz o' cap' p1 p2 p3 p4 p5 p6=>
 rw[i1] at p1
 cases p1
 have ho:=p5 (by omega)
 rw[Nat.add_zero] at ho
 subst ho
 have hl:(lv++[true]).length=Nat.succ lv.length:=by simp
 exact .inr ⟨(cb,o',sz),cap',by simp,by rw[hl],by rw[hl]; omega,p6,i2,hown⟩
theorem setV_rel {T:Tok} {φ:Phi}:∀ {n k a:Nat} {lv:List Bool} {us:List Value},lv.length=n→(∀ j u,(ZCq lv)[j]? = some u→T.val (a+j)=u)→@zAa T φ (setV k (.bool false) (oqs n a)) us→k<n→us=ZCq (lv.set k false)
 |0,_,_,_,_,_,_,_,h=>by omega
 |n+1,0,a,b::lv,us,hl,ht,h,_=>by
  have h':@zAa T φ (.bool false::oqs n (a+1)) us:=h
  cases h' with
  |cons h1 h2=>
  cases h1
  have:=oqs_un (T:=T) (vs:=ZCq lv) (by rw[boolsV_len]; simpa using hl) (fun j u hj=>by
   have:=ht (j+1) u (by unfold ZCq at hj ⊢; rw[List.map_cons,List.getElem?_cons_succ]; exact hj)
   rwa [show a+(j+1)=a+1+j by omega] at this) h2
  rw[this]; rfl
 |n+1,k+1,a,b::lv,us,hl,ht,h,hk=>by
  have h':@zAa T φ (.opq a::setV k (.bool false) (oqs n (a+1))) us:=h
  cases h' with
  |cons h1 h2=>
  have e1:=ZAw h1
  have e2:=ht 0 (.bool b) rfl
  have:=setV_rel (lv:=lv) (by simpa using hl) (fun j u hj=>by
   have:=ht (j+1) u (by unfold ZCq at hj ⊢; rw[List.map_cons,List.getElem?_cons_succ]; exact hj)
   rwa [show a+(j+1)=a+1+j by omega] at this) h2 (by omega)
  rw[this,e1]
  rw[Nat.add_zero] at e2
  rw[e2]; rfl
 |n+1,_,_,[],_,hl,_,_,_=>by simp at hl
theorem store22 {own:Nat→Nat} {w:World} (hgs:2≤w.heap.size) {sv:Value} {lv:List Bool} (hB:ZBq own w sv lv) (hm:lv.length≤50) {k:Nat} (hkl:k<lv.length) {a:Act} {L L':List (Nat×Value)} (ha:zAr 233 L a) (h12:∀ g,setL L g 12=sv) (h15:∀ g,setL L g 15=.int .i64 (k:Int)) (hk:(L'.all fun p=>keptR OL22.toList p.1)=true) (hsub:∀ g,(L'.map fun p=>setL L g p.1)=L'.map Prod.snd) {Q:Exit→Act→World→Prop}
 (hn:∀ a' w',zAr 233 L' a'→ZBq (extO own w 2) w' sv (lv.set k false)→OGo 2 own w (extO own w 2) w'→Q .normal a' w'):(Code.region 22 OL22 false).wp TZ Q a w:=by
 refine ZAg sL2.2.2.2.2.2.2 ?_
 have hrun:=zBw (zBw sb_all lv.length (by omega)) k hkl
 unfold sbRun at hrun
 split at hrun
 rotate_left
 · cases hrun
 rename_i x mf hq
 let T:Tok:=tokH noH (bVals (ZCq lv)) (bVals_cell fun u hu=>boolsV_cell hu)
 have t100:∀ j u,(ZCq lv)[j]? = some u→T.val (100+j)=u:=fun j u hj=>bVals_at hj
 obtain ⟨φ0,hr,hout,hblk⟩:=bool_rel hgs hB T rfl rfl t100
 obtain ⟨n,hn1⟩:∃ n,lv.length=n+1:=⟨lv.length-1,by omega⟩
 have eL:outBL lv.length=[.cells false (oqs lv.length 100)]:=by rw[hn1]; rfl
 have eA:outB lv.length=.slice 3 0 lv.length lv.length false 1:=by rw[hn1]; rfl
 rw[eL] at hr hblk
 rw[eA] at hout
 have hrange:List.range 4=List.range' 0 OL22.toList.length++[]:=by rw[lOL22]; rfl
 rw[hrange]
 refine vam (T:=T) (@ZBt T) 0 OL22.toList tOL22 gOL22 hq hr (by decide) ha (fun p hp=>?_) L' hk hsub fun φ' a' w' hst ha' hv=>?_
 · simp only[List.mem_cons,List.not_mem_nil,or_false] at hp
   rcases hp with rfl|rfl
   · refine ⟨(by decide:12<4096),?_⟩
     show @VRel T φ0 _ (a.tmps.getD 12 undef)
     rw[ha.get h12]; exact hout
   · refine ⟨(by decide:15<4096),?_⟩
     show @VRel T φ0 _ (a.tmps.getD 15 undef)
     rw[ha.get h15]; exact @VRel.int T φ0 .i64 (k:Int)
 have rl:=@Step.rel T TZ _ _ _ _ _ _ hst
 obtain ⟨r1,r2⟩:=idAbs (T:=T) rfl rl hrun
 have hlen1:2+1+([.cells false (setV k (.bool false) (oqs lv.length 100))]:List Blk).length≤65536:=by show 2+1+1≤65536; decide
 obtain ⟨c1,c2⟩:=zAv (b0:=.none) hlen1 (i:=0) rfl
 obtain ⟨xo',us,i1,i2,i3⟩:=WRow.of (T:=T) r1 c1 c2
 have hus:=setV_rel (T:=T) rfl t100 i3 hkl
 subst hus
 have i1':φ' 3=some xo':=by
  have:=ZAo (σ:=zAx 2 [3]) (φ:=φ') (i:=0) rfl rfl
  exact this.symm.trans i1
 have hg:=ogo_two (own:=own) hst fun q b o s hq hw hφ=>(hblk q b o s hq hw hφ).1
 unfold wpOps
 refine hn a' w' ha' ?_ hg
 rcases hB with ⟨q1,_⟩|⟨xl,cap,q1,q2,q3,q4,q5,q6⟩
 · rw[q1] at hkl; simp at hkl
 have e3:φ0 3=some xl:=by
  cases hp:φ0 3 with
  |none=>
   rcases @Step.fresh T TZ _ _ _ _ _ _ hst 3 _ i1' with h|h
   · rw[hp] at h; cases h
   · have:(zAe 2 0 .none [Blk.cells false (oqs lv.length 100)]).next=4:=ZAt _ _
     omega
  |some y=>
   rw[q2] at hout
   cases hout with
   |slice _ _ _ _ _ _ cb co sz o' cap' p1 p2 p3 p4 p5 p6=>
   rw[hp] at p1
   cases p1
   have hb:=@Rel.blk T TZ _ _ _ hr 3 (by show 3<4; decide)
   have ho:=p5 (by omega)
   rw[Nat.add_zero] at ho
   obtain ⟨c,el,fz,g1,g2,_⟩:=q5
   have hg:(zAe 2 0 .none [Blk.cells false (oqs lv.length 100)]).get 3=.cells false (oqs lv.length 100):=by
    rw[zAu (by decide) (by show 2+1+1≤65536; decide) (by decide)]; rfl
   rw[hg] at hb
   obtain ⟨cb',co',c',el',fz',b1,b2,_⟩:=hb
   rw[hp] at b1
   cases b1
   rw[g1] at b2
   cases b2
   rw[← ho,← g2]
 have e3':=@Step.ext T TZ _ _ _ _ _ _ hst 3 xl e3
 rw[i1'] at e3'
 cases e3'
 refine .inr ⟨xo',cap,fun e=>q1 ?_,by rw[List.length_set]; exact q2,by rw[List.length_set]; exact q3,q4,i2,(extO_lt q5.lt).trans q6⟩
 have:=congrArg List.length e
 rw[List.length_set] at this
 exact List.length_eq_zero_iff.1 this
end
end Go.AM
namespace Go.AM
open Go.Proofs
def rowL (A:Nat→Nat) (i:Nat):RowW:=⟨i+1,A i,i % 3⟩
def ZAz (A:Nat→Nat):Nat→List Bool→List RowW
 |_,[]=>[]
 |i,b::l=>if b then rowL A i::ZAz A (i+1) l else ZAz A (i+1) l
theorem rowsF_snoc (A:Nat→Nat):∀ (l:List Bool) (i:Nat),ZAz A i (l++[true])=ZAz A i l++[rowL A (i+l.length)]
 | [],i=>rfl
 |b::l,i=>by
  have ih:=rowsF_snoc A l (i+1)
  have e:i+1+l.length=i+(b::l).length:=by rw[List.length_cons]; omega
  rw[e] at ih
  cases b
  · exact ih
  · show rowL A i::ZAz A (i+1) (l++[true])=_
    rw[ih]; rfl
theorem rowsF_len (A:Nat→Nat):∀ (l:List Bool) (i:Nat),(ZAz A i l).length≤l.length
 | [],_=>Nat.le_refl _
 |b::l,i=>by
  have ih:=rowsF_len A l (i+1)
  cases b
  · exact Nat.le_succ_of_le ih
  · exact Nat.succ_le_succ ih
theorem rowsF_lt (A:Nat→Nat):∀ {l:List Bool} {i k:Nat},l[k]? = some false→(ZAz A i l).length<l.length
 |b::l,i,0,h=>by
  simp only[List.getElem?_cons_zero,Option.some.injEq] at h
  subst h
  exact Nat.lt_succ_of_le (rowsF_len A l (i+1))
 |b::l,i,k+1,h=>by
  rw[List.getElem?_cons_succ] at h
  have ih:=rowsF_lt A (i:=i+1) h
  cases b
  · exact Nat.lt_succ_of_lt ih
  · exact Nat.succ_lt_succ ih
theorem rowsF_mem {A:Nat→Nat} {r:RowW}:∀ {l:List Bool} {i:Nat},r∈ZAz A i l→∃ j,l[j]? = some true∧r=rowL A (i+j)
 |b::l,i,h=>by
  have h':r∈(if b then rowL A i::ZAz A (i+1) l else ZAz A (i+1) l):=h
  have later:r∈ZAz A (i+1) l→∃ j,(b::l)[j]? = some true∧r=rowL A (i+j):=fun h=>by
   obtain ⟨j,h1,h2⟩:=rowsF_mem h
   exact ⟨j+1,by rw[List.getElem?_cons_succ]; exact h1,by rw[h2]; congr 1; omega⟩
  cases b with
  |false=>exact later h'
  |true=>
   rcases List.mem_cons.1 h' with e|h'
   · exact ⟨0,rfl,e⟩
   · exact later h'
theorem rowsF_sorted {A:Nat→Nat}:∀ {l:List Bool} {i:Nat},(ZAz A i l).Pairwise fun r s=>r.id<s.id
 | [],_=>List.Pairwise.nil
 |b::l,i=>by
  have ih:=rowsF_sorted (A:=A) (l:=l) (i:=i+1)
  cases b with
  |false=>exact ih
  |true=>
   refine List.pairwise_cons.2 ⟨fun s hs=>?_,ih⟩
   obtain ⟨j,_,rfl⟩:=rowsF_mem hs
   show i+1<i+1+j+1
   omega
theorem rowsF_del {A:Nat→Nat}:∀ {l:List Bool} {i k:Nat},l[k]? = some true→∃ p,p<(ZAz A i l).length∧(ZAz A i l)[p]? = some (rowL A (i+k))∧ZAz A i (l.set k false)=(ZAz A i l).eraseIdx p
 |b::l,i,0,h=>by
  simp only[List.getElem?_cons_zero,Option.some.injEq] at h
  subst h
  exact ⟨0,Nat.succ_pos _,rfl,rfl⟩
 |b::l,i,k+1,h=>by
  rw[List.getElem?_cons_succ] at h
  obtain ⟨p,h1,h2,h3⟩:=rowsF_del (A:=A) (i:=i+1) h
  have e:i+1+k=i+(k+1):=by omega
  rw[e] at h2
  cases b with
  |false=>exact ⟨p,h1,h2,h3⟩
  |true=>
   refine ⟨p+1,Nat.succ_lt_succ h1,h2,?_⟩
   show rowL A i::ZAz A (i+1) (l.set k false)=_
   rw[h3]; rfl
theorem set_same {l:List Bool} {k:Nat} (h:l[k]? = some false):l.set k false=l:=by
 apply List.ext_getElem?
 intro j
 by_cases e:k=j
 · subst e
   rw[List.getElem?_set_self (zAf h),h]
 · rw[List.getElem?_set_ne e]
theorem stoLaw {A:Nat→Nat} {lv:List Bool} (hA:∀ i,i<lv.length→A i<256) (hl:lv.length≤50):ZBp (ZAz A 0 lv) (lv.length+1) where
 ok:=fun r hr=>by
  obtain ⟨j,h1,rfl⟩:=rowsF_mem hr
  have hj:=zAf h1
  exact ⟨hA _ (by omega),by show (0+j) % 3<3; omega,by show 1≤0+j+1; omega,by show 0+j+1≤127; omega⟩
 lt:=fun r hr=>by
  obtain ⟨j,h1,rfl⟩:=rowsF_mem hr
  have hj:=zAf h1
  show 0+j+1<lv.length+1
  omega
 sorted:=rowsF_sorted
 len:=Nat.le_trans (rowsF_len A lv 0) hl
 next:=⟨by omega,by omega⟩
def StoE (rows:List RowW) (next:Nat) (sp:Value) (own:Nat→Nat) (w:World):Prop:=∃ hok,StoW rows next hok sp 1 own w
structure LawW (w0:World) (rows:List RowW) (next:Nat) (sp:Value) (own:Nat→Nat) (w:World):Prop where
 st:StoE rows next sp own w
 g0:G0 w0
 old:∀ b,b<w0.heap.size→w.heap[b]? = w0.heap[b]?∧own b=0
 size:w0.heap.size≤w.heap.size
 rest:w.os=w0.os∧w.output=w0.output∧w.tape=w0.tape
section
variable {w0 w w':World} {rows:List RowW} {next:Nat} {sp:Value} {own own':Nat→Nat}
theorem LawW.gs (h:LawW w0 rows next sp own w):2≤w.heap.size:=Nat.le_trans h.g0.1 h.size
theorem LawW.z (h:LawW w0 rows next sp own w):own 0=0:=(h.old 0 (Nat.lt_of_lt_of_le (by decide) h.g0.1)).2
theorem LawW.to (h:LawW w0 rows next sp own w) {t:Nat} (ht:t≠0) (hg:OGo t own w own' w') {rows':List RowW} {next':Nat} (hs:StoE rows' next' sp own' w'):LawW w0 rows' next' sp own' w' where
 st:=hs
 g0:=h.g0
 old:=fun b hb=>by
  obtain ⟨h1,h2⟩:=h.old b hb
  have hbw:=Nat.lt_of_lt_of_le hb h.size
  exact ⟨(hg.1.1 b hbw (by rw[h2]; exact ht.symm)).trans h1,(hg.2 b hbw).trans h2⟩
 size:=Nat.le_trans h.size hg.1.2.1
 rest:=⟨hg.1.2.2.1.trans h.rest.1,hg.1.2.2.2.1.trans h.rest.2.1,hg.1.2.2.2.2.trans h.rest.2.2⟩
theorem LawW.go (h:LawW w0 rows next sp own w) (hg:OGo 2 own w own' w'):LawW w0 rows next sp own' w':=by
 obtain ⟨hok,hS⟩:=h.st
 exact h.to (by decide) hg ⟨hok,hS.move hg (by decide) (by decide)⟩
theorem LawW.new (h:LawW w0 rows next sp own w) (hl:ZAb w w'):LawW w0 rows next sp (extO own w 0) w':=h.go (ogo_new 2 0 hl)
theorem LawW.G (h:LawW w0 rows next sp own w):G0 w:=h.g0.left (h.old 0 (Nat.lt_of_lt_of_le (by decide) h.g0.1)).1 h.size
def InAt (w:World) (b:Option Addr) (n:Nat) (f:Nat→Value):Prop:=∀ i,i<n→∃ ad,b=some ad∧(ad.add i).block<w.heap.size∧w.cell? (ad.add i)=some (f i)
theorem LawW.cell (h:LawW w0 rows next sp own w) {b:Option Addr} {n:Nat} {f:Nat→Value} (hI:InAt w0 b n f) {i:Nat} (hi:i<n):∃ ad,b=some ad∧w.cell? (ad.add i)=some (f i):=by
 obtain ⟨ad,h1,h2,h3⟩:=hI i hi
 refine ⟨ad,h1,?_⟩
 rw[← h3]
 unfold World.cell?
 rw[(h.old _ h2).1]
end
theorem left_alloc {w:World} {o:Obj}:ZAb w (w.alloc o):=by
 refine ⟨fun b hb=>?_,?_,rfl,rfl,rfl⟩
 · show (w.heap.push o)[b]? = _
   rw[Array.getElem?_push_lt hb,← Array.getElem?_eq_getElem hb]
 · show w.heap.size≤(w.heap.push o).size
   rw[Array.size_push]; omega
theorem cells_alloc1 {w:World} {v:Value} {e:Nat}:zAi (zAk (w.alloc (.cells #[v] e))) (w.heap.size,0,1) [v]:=by
 have h:(w.alloc (.cells #[v] e)).heap[w.heap.size]? = some (.cells #[v] e):=by
  show (w.heap.push _)[w.heap.size]? = _
  rw[Array.getElem?_push_size]
 exact ⟨#[v],e,_,h,rfl,Nat.le_refl _,rfl⟩
end Go.AM
namespace Go.AM
open Go.Proofs
theorem numZ_b (b:Nat):numZ (128+b)=(b:Int):=by
 unfold numZ
 rw[Int.subNatNat_eq_coe]
 omega
theorem numZ_i8 {a:Nat} (h:a<256):-128≤numZ a∧numZ a<128:=by
 unfold numZ
 rw[Int.subNatNat_eq_coe]
 omega
structure LawIn (w0:World) (al:Option Addr) (n:Nat) (bl:Option Addr) (n2:Nat) (A B:Nat→Nat):Prop where
 a:∀ i,i<n→A i<256
 b:∀ i,i<n2→B i<256
 ina:InAt w0 al n fun i=>.int .i8 (numZ (A i))
 inb:InAt w0 bl n2 fun i=>.int .u8 (B i:Int)
 n50:n≤50
 n250:n2≤50
@[reducible] def LL (al:Option Addr) (n c1:Nat) (bl:Option Addr) (n2 c2:Nat) (lo hi:Int) (what:Nat) (sp sv:Value):List (Nat×Value):=
 [(0,.slice al n c1),(1,.slice bl n2 c2),(2,.int .i8 lo),(3,.int .i8 hi),(4,.int .u8 (what:Int)),(11,sp),(12,sv)]
section
variable {w0:World} {al bl:Option Addr} {n c1 n2 c2 what:Nat} {lo hi:Int} {A B:Nat→Nat} {sp:Value}
attribute [local irreducible] OL10 OL11 OL12 OL14 CL13 in
theorem round1 (hI:LawIn w0 al n bl n2 A B) {own:Nat→Nat} {w:World} {sv:Value} {k:Nat} (hk:k≤n) (hW:LawW w0 (ZAz A 0 (List.replicate k true)) (k+1) sp own w) (hB:ZBq own w sv (List.replicate k true)) {a:Act} (ha:zAr 233 ((13,.int .i64 (k:Int))::LL al n c1 bl n2 c2 lo hi what sp sv) a) {Q:Exit→Act→World→Prop}
 (hexit:k=n→zAr 233 (LL al n c1 bl n2 c2 lo hi what sp sv) a→∀ a',zAr 233 (LL al n c1 bl n2 c2 lo hi what sp sv) a'→Q (.exit 0) a' w)
 (hnext:k<n→∀ a' w' own' sv',zAr 233 ((13,.int .i64 ((k+1:Nat):Int))::LL al n c1 bl n2 c2 lo hi what sp sv') a'→LawW w0 (ZAz A 0 (List.replicate (k+1) true)) (k+2) sp own' w'→ZBq own' w' sv' (List.replicate (k+1) true)→Q .normal a' w'):LB1.wp TZ Q a w:=by
 obtain ⟨s10,s11,s12,s14⟩:=sL1
 have hn50:=hI.n50
 rw[lb1_is]
 refine wp_seq (wp_seq (vreg (nt:=233) zAh s10 ((39,.bool (decide ((k:Int)<(n:Int))))::(13,.int .i64 (k:Int))::LL al n c1 bl n2 c2 lo hi what sp sv) (fun g=>by kernel_rfl) (fun g=>by kernel_rfl) ha fun a1 ha1=>?_))
 refine zCj (ha1.ev (v:=.bool (decide ((k:Int)<(n:Int)))) fun f=>rfl) (fun h=>Go.wp_skip ?_) (fun h=>Go.wp_exit ?_)
 rotate_left
 · have h':k=n:=by have:=of_decide_eq_false h; omega
   exact hexit h' (ha.sub fun g=>by kernel_rfl) a1 (ha1.sub fun g=>by kernel_rfl)
 have hkn:k<n:=by have:=of_decide_eq_true h; omega
 obtain ⟨ad,rfl,hcell⟩:=hW.cell hI.ina hkn
 have hAk:=hI.a k hkn
 refine wp_seq (wp_block ?_)
 rw[bd1_is]
 refine wp_seq (wp_seq (ZAg s12 (ZAj (nt:=233) zAh 0 3 [3,4,5,6,7,8,9,10,11] ((42,sp)::(43,.slice (some ad) n c1)::(44,.int .i64 (k:Int))::(13,.int .i64 (k:Int))::LL (some ad) n c1 bl n2 c2 lo hi what sp sv) (by kernel_rfl) (fun g=>by kernel_rfl) (fun g=>by kernel_rfl) ha1 fun a2 ha2=>?_)))
 refine ZBc (nt:=233) l12_3 ((42,sp)::(45,.pointer (some (ad.add k)))::(13,.int .i64 (k:Int))::LL (some ad) n c1 bl n2 c2 lo hi what sp sv) ha2 (by decide) (fun g=>by kernel_rfl) (fun o ho=>run_ix tz_u70 siz71 ho hkn (ha2.get (t:=43) fun f=>rfl) (ha2.get (t:=44) fun f=>rfl)) (fun g=>by kernel_rfl) fun a3 ha3=>?_
 refine ZBc (nt:=233) l12_4 ((42,sp)::(46,.int .i8 (numZ (A k)))::(13,.int .i64 (k:Int))::LL (some ad) n c1 bl n2 c2 lo hi what sp sv) ha3 (by decide) (fun g=>by kernel_rfl) (fun o ho=>zCy pl71 ho (ha3.get (t:=45) fun f=>rfl) hcell) (fun g=>by kernel_rfl) fun a4 ha4=>?_
 refine ZBc (nt:=233) l12_5 ((42,sp)::(47,.int .i64 (numZ (A k)))::(13,.int .i64 (k:Int))::LL (some ad) n c1 bl n2 c2 lo hi what sp sv) ha4 (by decide) (fun g=>by kernel_rfl) (fun o ho=>run_cvI ho (numZ_i8 hAk) (ha4.get (t:=46) fun f=>rfl)) (fun g=>by kernel_rfl) fun a5 ha5=>?_
 refine ZAj (nt:=233) zAh 6 1 [7,8,9,10,11] ((42,sp)::(47,.int .i64 (numZ (A k)))::(48,.int .i64 (k:Int))::(13,.int .i64 (k:Int))::LL (some ad) n c1 bl n2 c2 lo hi what sp sv) (by kernel_rfl) (fun g=>by kernel_rfl) (fun g=>by kernel_rfl) ha5 fun a6 ha6=>?_
 refine ZBc (nt:=233) l12_7 ((42,sp)::(47,.int .i64 (numZ (A k)))::(49,.int .i64 ((k % 3:Nat):Int))::(13,.int .i64 (k:Int))::LL (some ad) n c1 bl n2 c2 lo hi what sp sv) ha6 (by decide) (fun g=>by kernel_rfl) (fun o ho=>run_rem3 ho (ha6.get (t:=48) fun f=>rfl)) (fun g=>by kernel_rfl) fun a7 ha7=>?_
 refine vcall l12_8 (fun c=>(50,c)::(42,sp)::(13,.int .i64 (k:Int))::LL (some ad) n c1 bl n2 c2 lo hi what sp sv) ha7 (by decide) (fun g=>by kernel_rfl) (args:=[.int .i64 (numZ (A k)),.int .i64 ((k % 3:Nat):Int)]) (fun g=>by kernel_rfl) (nums_ok hW.gs) (fun c g=>by kernel_rfl) fun c8 a8 w8 hR8 ha8=>?_
 obtain ⟨hl8,xv,rfl,hxs,hxn,hxc⟩:=hR8
 have hW8:=hW.new hl8
 have hB8:=hB.move (ogo_new 1 0 hl8) (by decide)
 have hx0:extO own w 0 xv.1=0:=extO_ge hxn
 refine ZBc (nt:=233) l12_9 ((42,sp)::(51,.slice (some ⟨w8.heap.size,0,none⟩) 1 1)::(13,.int .i64 (k:Int))::LL (some ad) n c1 bl n2 c2 lo hi what sp sv) ha8 (by decide) (fun g=>by kernel_rfl) (fun o ho=>run_bs51 ho (ha8.get (t:=50) fun f=>rfl)) (fun g=>by kernel_rfl) fun a9 ha9=>?_
 generalize hw9:w8.alloc (.cells #[.slice (some ⟨xv.1,xv.2.1,none⟩) 2 2] 49)=w9
 have hl9:ZAb w8 w9:=by rw[← hw9]; exact left_alloc
 have hms:zAi (zAk w9) (w8.heap.size,0,1) [.slice (some ⟨xv.1,xv.2.1,none⟩) 2 2]:=by rw[← hw9]; exact cells_alloc1
 have hW9:=hW8.new hl9
 have hB9:=hB8.move (ogo_new 1 0 hl9) (by decide)
 have hx9:extO (extO own w 0) w8 0 xv.1=0:=by
  rw[extO_lt (hxc.lt fun b o h=>h)]; exact hx0
 have hm9:extO (extO own w 0) w8 0 (w8.heap.size,0,1).1=0:=extO_ge (Nat.le_refl _)
 generalize extO (extO own w 0) w8 0=own9 at hW9 hB9 hx9 hm9
 have hrow:[Value.int .i64 2,.int .i64 (numZ (A k)),.string ByteArray.empty,.int .i64 2,.int .i64 ((k % 3:Nat):Int),.string ByteArray.empty]=zBn (rowL A k):=by
  unfold zBn rowL
  rw[numZ_b]
 rw[hrow] at hxc
 obtain ⟨hok9,hS9⟩:=hW9.st
 have hrep:ZAz A 0 (List.replicate (k+1) true)=ZAz A 0 (List.replicate k true)++[rowL A k]:=by
  rw[List.replicate_succ',rowsF_snoc,List.length_replicate,Nat.zero_add]
 have hok':ZBp (ZAz A 0 (List.replicate k true)++[rowL A k]) (k+1+1):=by
  rw[← hrep]
  have:=stoLaw (A:=A) (lv:=List.replicate (k+1) true) (fun i hi=>hI.a i (by rw[List.length_replicate] at hi; omega)) (by rw[List.length_replicate]; omega)
  rw[List.length_replicate] at this
  exact this
 have hlenr:(ZAz A 0 (List.replicate k true)).length≤49:=by
  have:=rowsF_len A (List.replicate k true) 0
  rw[List.length_replicate] at this
  omega
 refine vcall l12_10 (fun c=>(52,c)::(13,.int .i64 (k:Int))::LL (some ad) n c1 bl n2 c2 lo hi what sp sv) ha9 (by decide) (fun g=>by kernel_rfl) (args:=[sp,.int .i64 0,nilS,nilS,.slice (some ⟨w8.heap.size,0,none⟩) 1 1]) (fun g=>by kernel_rfl)
  (writeI_ok hlenr (r:=rowL A k) rfl hok' (by decide) hW9.z hS9 (hxc.at_ (hl9.1 _ (hxc.lt fun b o h=>h))) hx9 hxs (ms:=(w8.heap.size,0,1)) hms hm9 (Nat.le_refl _)) (fun c g=>by kernel_rfl) fun c10 a10 w10 hR10 ha10=>?_
 obtain ⟨rfl,own10,hg10,_,hS10⟩:=hR10
 have hW10:LawW w0 (ZAz A 0 (List.replicate (k+1) true)) (k+2) sp own10 w10:=by
  rw[hrep]
  exact hW9.to (by decide) hg10 ⟨hok',hS10⟩
 have hB10:=hB9.move hg10 (by decide)
 refine ZAj (nt:=233) zAh 11 1 [] ((53,.bool false)::(13,.int .i64 (k:Int))::LL (some ad) n c1 bl n2 c2 lo hi what sp sv) (by kernel_rfl) (fun g=>by kernel_rfl) (fun g=>by kernel_rfl) ha10 fun a11 ha11=>?_
 unfold wpOps
 refine zCj (ha11.ev (v:=.bool false) fun f=>rfl) (fun h=>by cases h) (fun _=>Go.wp_skip ?_)
 refine append14 (L':=[(0,.slice (some ad) n c1),(1,.slice bl n2 c2),(2,.int .i8 lo),(3,.int .i8 hi),(4,.int .u8 (what:Int)),(11,sp),(13,.int .i64 (k:Int))]) hW10.gs hB10 (by rw[List.length_replicate]; omega) ha11 (fun g=>rfl) (by kernel_rfl) (fun g=>by kernel_rfl) fun a12 w12 sv' ha12 h12 hB12 hg12=>?_
 have hW12:=hW10.go hg12
 rw[← List.replicate_succ'] at hB12
 refine ZAg s11 (ZAj (nt:=233) zAh 0 1 [1,2] ((40,.int .i64 (k:Int))::LL (some ad) n c1 bl n2 c2 lo hi what sp sv') (by kernel_rfl) (fun g=>by kernel_rfl) (fun g=>by kernel_rfl) (ha12.add h12) fun a13 ha13=>?_)
 refine ZBc (nt:=233) l11_1 ((41,.int .i64 ((k+1:Nat):Int))::LL (some ad) n c1 bl n2 c2 lo hi what sp sv') ha13 (by decide) (fun g=>by kernel_rfl) (fun o ho=>run_inc ho (by omega) (ha13.get (t:=40) fun f=>rfl)) (fun g=>by kernel_rfl) fun a14 ha14=>?_
 refine ZAj (nt:=233) zAh 2 1 [] ((13,.int .i64 ((k+1:Nat):Int))::LL (some ad) n c1 bl n2 c2 lo hi what sp sv') (by kernel_rfl) (fun g=>by kernel_rfl) (fun g=>by kernel_rfl) ha14 fun a15 ha15=>?_
 unfold wpOps
 exact hnext hkn a15 w12 _ sv' ha15 hW12 hB12
end
end Go.AM
namespace Go.AM
open Go.Proofs
theorem l18_2:OpG OL18 2 70 (.indexAddr 22 (.tmp 68) (.tmp 69)) none:=opG (by kernel_rfl) (by kernel_rfl) (by kernel_rfl) (by kernel_rfl)
theorem l18_3:OpG OL18 3 71 (.load 5 (.tmp 70)) none:=opG (by kernel_rfl) (by kernel_rfl) (by kernel_rfl) (by kernel_rfl)
theorem l18_4:OpG OL18 4 72 (.convert 5 3 (.tmp 71)) none:=opG (by kernel_rfl) (by kernel_rfl) (by kernel_rfl) (by kernel_rfl)
theorem l18_7:OpG OL18 7 75 (.binOp .rem 3 (.tmp 72) (.tmp 74) 3) none:=opG (by kernel_rfl) (by kernel_rfl) (by kernel_rfl) (by kernel_rfl)
theorem l19_2:OpG OL19 2 78 (.binOp .add 3 (.tmp 77) (.const (.int .i64 1)) 3) none:=opG (by kernel_rfl) (by kernel_rfl) (by kernel_rfl) (by kernel_rfl)
theorem l19_3:OpG OL19 3 79 (.convert 3 59 (.tmp 78)) none:=opG (by kernel_rfl) (by kernel_rfl) (by kernel_rfl) (by kernel_rfl)
theorem l19_4:OpG OL19 4 80 (.buildSlice 63 1 #[(0,.tmp 79)]) none:=opG (by kernel_rfl) (by kernel_rfl) (by kernel_rfl) (by kernel_rfl)
theorem l19_5:CallG OL19 5 81 10 [.tmp 76,.const (.int .i64 0),.const (.slice none 0 0),.tmp 80,.const (.slice none 0 0)] none:=callG (by kernel_rfl) (by kernel_rfl) (by kernel_rfl) (by kernel_rfl)
theorem l20_4:OpG OL20 4 86 (.indexAddr 72 (.tmp 84) (.tmp 85)) none:=opG (by kernel_rfl) (by kernel_rfl) (by kernel_rfl) (by kernel_rfl)
theorem l20_5:OpG OL20 5 87 (.load 4 (.tmp 86)) none:=opG (by kernel_rfl) (by kernel_rfl) (by kernel_rfl) (by kernel_rfl)
theorem l20_12:CallG OL20 12 94 11 [.tmp 93] (some (10,true)):=callG (by kernel_rfl) (by kernel_rfl) (by kernel_rfl) (by kernel_rfl)
theorem l17_1:OpG OL17 1 67 (.binOp .add 3 (.tmp 66) (.const (.int .i64 1)) 3) none:=opG (by kernel_rfl) (by kernel_rfl) (by kernel_rfl) (by kernel_rfl)
theorem ns20:Region.noSelect OL20=true:=by kernel_rfl
theorem ok20_0:okH OL20 0 4=true:=by kernel_rfl
theorem ok20_4:okH OL20 4 1=true:=by kernel_rfl
theorem ok20_5:okH OL20 5 1=true:=by kernel_rfl
theorem ok20_6:okH OL20 6 10=true:=by kernel_rfl
theorem ok20_6':okH OL20 6 6=true:=by kernel_rfl
theorem ok20_13:okH OL20 13 3=true:=by kernel_rfl
theorem rd20:Region.ready .any OL20 (LHf OL20 12)=[12]:=by kernel_rfl
theorem dn20:Region.ready .any OL20 (LHf OL20 16)=[]:=by kernel_rfl
theorem hsegN {P:Program} {ty:TypeId→Nat} {ops:Array Oper} {Q:Exit→Act→World→Prop} {S:World→Prop} {nt:Nat} {w:World} (hty:TyOk P ty) (hs:Region.noSelect ops=true) (hQ:PanicF Q) (hS:S w) (fuel:Nat) {L:List (Nat×Value)} (i n:Nat) (L':List (Nat×Value)) (hsz:Nat.ble (Nat.add i n) ops.size=true) (hok:okH ops i n=true)
 (hv:∀ g,(vrun nt ty ops ((ops.toList.drop i).take n) (setL L g)).1=true) (hL:∀ g,(L'.map fun p=>(vrun nt ty ops ((ops.toList.drop i).take n) (setL L g)).2 p.1)=L'.map Prod.snd) {a:Act} (ha:zAr nt L a) (hn:∀ a',zAr nt L' a'→wpAnyH P .any ops Q S fuel (LHf ops (i+n)) a' w):wpAnyH P .any ops Q S (n+fuel) (LHf ops i) a w:=by
 obtain ⟨h1,h2⟩:=segD hsz
 have:=hseg hty hs hQ hS (fuel:=fuel) L' i ((ops.toList.drop i).take n) h2 (by rw[h1]; exact hok) hv hL ha
 rw[h1] at this
 exact this hn
theorem left_drawn {w:World} {n:Nat}:ZAb w { w with drawn:=n }:=⟨fun _ _=>rfl,Nat.le_refl _,rfl,rfl,rfl⟩
section
variable {w0:World} {al bl:Option Addr} {n c1 n2 c2 what:Nat} {lo hi:Int} {A B:Nat→Nat} {sp:Value}
@[reducible] def LM (al:Option Addr) (n c1:Nat) (bl:Option Addr) (n2 c2:Nat) (lo hi:Int) (what:Nat) (sp sv:Value) (j k:Nat):List (Nat×Value):=
 (14,.int .i64 (j:Int))::(15,.int .i64 (k:Int))::LL al n c1 bl n2 c2 lo hi what sp sv
def Says (own:Nat→Nat) (w:World) (e:Value) (b:Bool):Prop:=(b=true∧e=.nilIface)∨(b=false∧ErrX own 1 w e)
theorem ErrX.go {own own':Nat→Nat} {w w':World} {e:Value} (h:ErrX own 1 w e) (hg:OGo 2 own w own' w'):ErrX own' 1 w' e:=by
 obtain ⟨x1,v1,h1,h2,h3,h4⟩:=h
 have hlt:=h2.lt (w:=w) fun b o h=>h
 refine ⟨x1,v1,h1,h2.at_ (hg.1.1 _ hlt (fun e=>?_)),h3,by rw[hg.2 _ hlt]; exact h4⟩
 rcases h4 with h4|h4<;>rw[h4] at e<;>cases e
attribute [local irreducible] OL20 CL21 in
theorem check20 {own:Nat→Nat} {w:World} {rows:List RowW} {next:Nat} (hW:LawW w0 rows next sp own w) {sv:Value} {lv:List Bool} (hB:ZBq own w sv lv) {j k:Nat} {b:Bool} (hk:lv[k]? = some b) {e:Value} (he:Says own w e b) {a:Act} (ha:zAr 233 ((16,e)::LM al n c1 bl n2 c2 lo hi what sp sv j k) a) {rest:Code} {Q:Exit→Act→World→Prop} (hQ:PanicF Q)
 (hn:∀ a' w' own',LawW w0 rows next sp own' w'→ZBq own' w' sv lv→zAr 233 (LM al n c1 bl n2 c2 lo hi what sp sv j k) a'→rest.wp TZ Q a' w'):(Code.seq (.seq (.region 20 OL20 true) (.cond (.tmp 97) CL21 .skip)) rest).wp TZ Q a w:=by
 obtain ⟨s15,s16,s17,s18,s19,s20,s22⟩:=sL2
 have hld:ZAb w { w with drawn:=w.drawn+1 }:=left_drawn
 have hg:=ogo_new (own:=own) 2 0 hld
 have hW1:=hW.go hg
 have hB1:=hB.move (ogo_new 1 0 hld) (by decide)
 have he1:Says (extO own w 0) { w with drawn:=w.drawn+1 } e b:=by
  rcases he with h|⟨h1,h2⟩
  · exact .inl h
  · exact .inr ⟨h1,h2.go hg⟩
 have hkl:=zAf hk
 refine wp_seq (wp_seq ?_)
 obtain ⟨ad,cap,rfl,hcell,hadl,_⟩:=hB1.cell hk
 refine wp_region_held (S:=fun w'=>w'.cell? (ad.add (k*1))=some (.bool b)) zBt ?_
 show wpAnyH TZ .any OL20 _ _ OL20.size (LHf OL20 0) a _
 rw[s20]
 generalize ({ w with drawn:=w.drawn+1 }:World)=w1 at hW1 hB1 he1 hcell hadl
 generalize extO own w 0=own1 at hW1 hB1 he1
 rcases he1 with ⟨rfl,rfl⟩|⟨rfl,hx⟩
 · refine hsegN (nt:=233) zAh ns20 (zAq (zAq hQ)) hcell 12 0 4 ((83,.bool true)::(82,.nilIface)::(84,.slice (some ad) lv.length cap)::(85,.int .i64 (k:Int))::(16,.nilIface)::LM al n c1 bl n2 c2 lo hi what sp (.slice (some ad) lv.length cap) j k) (by rw[s20]; rfl) ok20_0 (fun g=>by kernel_rfl) (fun g=>by kernel_rfl) ha fun a2 ha2=>?_
   refine hhand (nt:=233) l20_4 ns20 (zAq (zAq hQ)) ok20_4 hcell ((83,.bool true)::(86,.pointer (some (ad.add (k*1))))::(16,.nilIface)::LM al n c1 bl n2 c2 lo hi what sp (.slice (some ad) lv.length cap) j k) ha2 (by decide) (fun g=>by kernel_rfl) (fun o w' _ ho=>run_ix2 tz_u72 siz4 ho hkl (ha2.get (t:=84) fun f=>rfl) (ha2.get (t:=85) fun f=>rfl)) (fun g=>by kernel_rfl) fun a3 ha3=>?_
   refine hhand (nt:=233) l20_5 ns20 (zAq (zAq hQ)) ok20_5 hcell ((83,.bool true)::(87,.bool true)::(16,.nilIface)::LM al n c1 bl n2 c2 lo hi what sp (.slice (some ad) lv.length cap) j k) ha3 (by decide) (fun g=>by kernel_rfl) (fun o w' hS ho=>zCy pl4 ho (ha3.get (t:=86) fun f=>rfl) hS) (fun g=>by kernel_rfl) fun a4 ha4=>?_
   refine hsegN (nt:=233) zAh ns20 (zAq (zAq hQ)) hcell 0 6 10 ((97,.bool false)::LM al n c1 bl n2 c2 lo hi what sp (.slice (some ad) lv.length cap) j k) (by rw[s20]; rfl) ok20_6 (fun g=>by kernel_rfl) (fun g=>by kernel_rfl) ha4 fun a5 ha5=>?_
   refine wpAnyH_done dn20 ?_ 0
   refine zCj (ha5.ev (v:=.bool false) fun f=>rfl) (fun h=>by cases h) (fun _=>Go.wp_skip ?_)
   exact hn a5 w1 own1 hW1 hB1 (ha5.sub fun g=>by kernel_rfl)
 · have hx':=hx
   obtain ⟨x1,v1,rfl,_⟩:=hx'
   refine hsegN (nt:=233) zAh ns20 (zAq (zAq hQ)) hcell 12 0 4 ((83,.bool false)::(82,.iface 118 (ptrV x1))::(84,.slice (some ad) lv.length cap)::(85,.int .i64 (k:Int))::(16,.iface 118 (ptrV x1))::LM al n c1 bl n2 c2 lo hi what sp (.slice (some ad) lv.length cap) j k) (by rw[s20]; rfl) ok20_0 (fun g=>by kernel_rfl) (fun g=>by kernel_rfl) ha fun a2 ha2=>?_
   refine hhand (nt:=233) l20_4 ns20 (zAq (zAq hQ)) ok20_4 hcell ((83,.bool false)::(86,.pointer (some (ad.add (k*1))))::(16,.iface 118 (ptrV x1))::LM al n c1 bl n2 c2 lo hi what sp (.slice (some ad) lv.length cap) j k) ha2 (by decide) (fun g=>by kernel_rfl) (fun o w' _ ho=>run_ix2 tz_u72 siz4 ho hkl (ha2.get (t:=84) fun f=>rfl) (ha2.get (t:=85) fun f=>rfl)) (fun g=>by kernel_rfl) fun a3 ha3=>?_
   refine hhand (nt:=233) l20_5 ns20 (zAq (zAq hQ)) ok20_5 hcell ((83,.bool false)::(87,.bool false)::(16,.iface 118 (ptrV x1))::LM al n c1 bl n2 c2 lo hi what sp (.slice (some ad) lv.length cap) j k) ha3 (by decide) (fun g=>by kernel_rfl) (fun o w' hS ho=>zCy pl4 ho (ha3.get (t:=86) fun f=>rfl) hS) (fun g=>by kernel_rfl) fun a4 ha4=>?_
   refine hsegN (nt:=233) zAh ns20 (zAq (zAq hQ)) hcell 4 6 6 ((89,.bool false)::(92,.bool true)::(93,.iface 118 (ptrV x1))::LM al n c1 bl n2 c2 lo hi what sp (.slice (some ad) lv.length cap) j k) (by rw[s20]; rfl) ok20_6' (fun g=>by kernel_rfl) (fun g=>by kernel_rfl) ha4 fun a5 ha5=>?_
   refine hcall l20_12 rd20 (fun c=>(94,c)::(89,.bool false)::(92,.bool true)::LM al n c1 bl n2 c2 lo hi what sp (.slice (some ad) lv.length cap) j k) ha5 (by decide) (fun g=>by kernel_rfl) (args:=[.iface 118 (ptrV x1)]) (fun g=>by kernel_rfl) (class_ok hW1.G hx) (fun c g=>by kernel_rfl) fun c6 a6 w6 hR6 ha6=>?_
   obtain ⟨rfl,hl6⟩:=hR6
   have hcell6:w6.cell? (ad.add (k*1))=some (.bool false):=by
    rw[← hcell]
    have hbk:(ad.add (k*1)).block=ad.block:=by
     unfold Addr.add
     split<;>rfl
    unfold World.cell?
    rw[hbk,hl6.1 _ hadl]
   refine ⟨hcell6,?_⟩
   refine hsegN (nt:=233) zAh ns20 (zAq (zAq hQ)) hcell6 0 13 3 ((97,.bool false)::LM al n c1 bl n2 c2 lo hi what sp (.slice (some ad) lv.length cap) j k) (by rw[s20]; rfl) ok20_13 (fun g=>by kernel_rfl) (fun g=>by kernel_rfl) ha6 fun a7 ha7=>?_
   refine wpAnyH_done dn20 ?_ 0
   refine zCj (ha7.ev (v:=.bool false) fun f=>rfl) (fun h=>by cases h) (fun _=>Go.wp_skip ?_)
   exact hn a7 w6 _ (hW1.new hl6) (hB1.move (ogo_new 1 0 hl6) (by decide)) (ha7.sub fun g=>by kernel_rfl)
end
end Go.AM
namespace Go.AM
open Go.Proofs
section
variable {w0:World} {al bl:Option Addr} {n c1 n2 c2 what:Nat} {lo hi:Int} {A B:Nat→Nat} {sp:Value}
attribute [local irreducible] OL18 OL19 OL20 OL22 CL21 in
theorem body2 (hI:LawIn w0 al n bl n2 A B) {own:Nat→Nat} {w:World} {sv:Value} {lv:List Bool} (hlv:lv.length=n) {j k:Nat} (hkn:k<n) (hW:LawW w0 (ZAz A 0 lv) (n+1) sp own w) (hB:ZBq own w sv lv) {a:Act} (ha:zAr 233 (LM al n c1 bl n2 c2 lo hi what sp sv j k) a) {Q:Exit→Act→World→Prop} (hQ:PanicF Q)
 (hn:∀ a' w' own',zAr 233 (LM al n c1 bl n2 c2 lo hi what sp sv j k) a'→LawW w0 (ZAz A 0 (lv.set k false)) (n+1) sp own' w'→ZBq own' w' sv (lv.set k false)→Q .normal a' w') :
 (Code.seq (.region 19 OL19 false) (.seq (.seq (.region 20 OL20 true) (.cond (.tmp 97) CL21 .skip)) (.region 22 OL22 false))).wp TZ Q a w:=by
 obtain ⟨s15,s16,s17,s18,s19,s20,s22⟩:=sL2
 have hn50:=hI.n50
 have hstoL:∀ lv':List Bool,lv'.length=n→ZBp (ZAz A 0 lv') (n+1):=fun lv' h=>by
  have:=stoLaw (A:=A) (lv:=lv') (fun i hi=>hI.a i (by rw[h] at hi; exact hi)) (by rw[h]; exact hn50)
  rwa [h] at this
 refine wp_seq (ZAg s19 (ZAj (nt:=233) zAh 0 2 [2,3,4,5,6] ((76,sp)::(77,.int .i64 (k:Int))::LM al n c1 bl n2 c2 lo hi what sp sv j k) (by kernel_rfl) (fun g=>by kernel_rfl) (fun g=>by kernel_rfl) ha fun a1 ha1=>?_))
 refine ZBc (nt:=233) l19_2 ((76,sp)::(78,.int .i64 ((k+1:Nat):Int))::LM al n c1 bl n2 c2 lo hi what sp sv j k) ha1 (by decide) (fun g=>by kernel_rfl) (fun o ho=>run_inc ho (by omega) (ha1.get (t:=77) fun f=>rfl)) (fun g=>by kernel_rfl) fun a2 ha2=>?_
 refine ZBc (nt:=233) l19_3 ((76,sp)::(79,.int .u64 ((k+1:Nat):Int))::LM al n c1 bl n2 c2 lo hi what sp sv j k) ha2 (by decide) (fun g=>by kernel_rfl) (fun o ho=>run_cvU ho (by omega) (ha2.get (t:=78) fun f=>rfl)) (fun g=>by kernel_rfl) fun a3 ha3=>?_
 refine ZBc (nt:=233) l19_4 ((76,sp)::(80,.slice (some ⟨w.heap.size,0,none⟩) 1 1)::LM al n c1 bl n2 c2 lo hi what sp sv j k) ha3 (by decide) (fun g=>by kernel_rfl) (fun o ho=>run_bs63 ho (ha3.get (t:=79) fun f=>rfl)) (fun g=>by kernel_rfl) fun a4 ha4=>?_
 generalize hw4:w.alloc (.cells #[.int .u64 ((k+1:Nat):Int)] 59)=w4
 have hl4:ZAb w w4:=by rw[← hw4]; exact left_alloc
 have hms:zAi (zAk w4) (w.heap.size,0,1) [.int .u64 ((k+1:Nat):Int)]:=by rw[← hw4]; exact cells_alloc1
 have hW4:=hW.new hl4
 have hB4:=hB.move (ogo_new 1 0 hl4) (by decide)
 have hm4:extO own w 0 (w.heap.size,0,1).1=0:=extO_ge (Nat.le_refl _)
 generalize extO own w 0=own4 at hW4 hB4 hm4
 obtain ⟨hok4,hS4⟩:=hW4.st
 have hgk:∃ b,lv[k]? = some b:=⟨lv[k]'(by omega),List.getElem?_eq_getElem (by omega)⟩
 obtain ⟨b,hb⟩:=hgk
 have call:Ends TZ 10 #[sp,.int .i64 0,nilS,.slice (some ⟨w.heap.size,0,none⟩) 1 1,nilS] w4 fun c w'=>∃ own',Says own' w' c b∧LawW w0 (ZAz A 0 (lv.set k false)) (n+1) sp own' w'∧ZBq own' w' sv lv:=by
  cases b with
  |true=>
   obtain ⟨p,h1,h2,h3⟩:=rowsF_del (A:=A) (i:=0) hb
   rw[Nat.zero_add] at h2
   have hid:idAt (ZAz A 0 lv) p=k+1:=idAt_of h2
   have hok':ZBp ((ZAz A 0 lv).eraseIdx p) (n+1):=by
    rw[← h3]
    exact hstoL _ (by rw[List.length_set]; exact hlv)
   refine (writeD_ok (k:=(ZAz A 0 lv).length-1) h1 (by omega) hok' (by decide) hW4.z hS4 (ms:=(w.heap.size,0,1)) (by rw[hid]; exact hms) hm4 (Nat.le_refl _)).mono fun c w' ⟨hc,own',hg,_,hS'⟩=>⟨own',.inl ⟨rfl,hc⟩,?_,hB4.move hg (by decide)⟩
   rw[h3]
   exact hW4.to (by decide) hg ⟨hok',hS'⟩
  |false=>
   have hlen:=rowsF_lt A (i:=0) hb
   have hne:∀ r,r∈ZAz A 0 lv→r.id≠k+1:=fun r hr e=>by
    obtain ⟨i,h1,rfl⟩:=rowsF_mem hr
    have e':0+i+1=k+1:=e
    have:i=k:=by omega
    subst this
    rw[hb] at h1; cases h1
   refine (writeX_ok (by omega) (x:=k+1) (by omega) (by omega) hne (by decide) hW4.z hS4 (ms:=(w.heap.size,0,1)) hms hm4 (Nat.le_refl _)).mono fun c w' ⟨own',hg,_,hS',hE⟩=>⟨own',.inr ⟨rfl,hE⟩,?_,hB4.move hg (by decide)⟩
   rw[set_same hb]
   exact hW4.to (by decide) hg ⟨hok4,hS'⟩
 refine vcall l19_5 (fun c=>(81,c)::LM al n c1 bl n2 c2 lo hi what sp sv j k) ha4 (by decide) (fun g=>by kernel_rfl) (args:=[sp,.int .i64 0,nilS,.slice (some ⟨w.heap.size,0,none⟩) 1 1,nilS]) (fun g=>by kernel_rfl) call (fun c g=>by kernel_rfl) fun c5 a5 w5 hR5 ha5=>?_
 obtain ⟨own5,he5,hW5,hB5⟩:=hR5
 refine ZAj (nt:=233) zAh 6 1 [] ((16,c5)::LM al n c1 bl n2 c2 lo hi what sp sv j k) (by kernel_rfl) (fun g=>by kernel_rfl) (fun g=>by kernel_rfl) ha5 fun a6 ha6=>?_
 unfold wpOps
 refine check20 hW5 hB5 hb he5 ha6 hQ fun a7 w7 own7 hW7 hB7 ha7=>?_
 refine store22 (L':=LM al n c1 bl n2 c2 lo hi what sp sv j k) hW7.gs hB7 (by omega) (k:=k) (by omega) ha7 (fun g=>rfl) (fun g=>rfl) (by kernel_rfl) (fun g=>by kernel_rfl) fun a8 w8 ha8 hB8 hg8=>?_
 exact hn a8 w8 _ ha8 (hW7.go hg8) hB8
attribute [local irreducible] OL16 OL17 OL18 OL19 OL20 OL22 CL21 in
theorem round2 (hI:LawIn w0 al n bl n2 A B) {own:Nat→Nat} {w:World} {sv:Value} {lv:List Bool} (hlv:lv.length=n) {j:Nat} (hW:LawW w0 (ZAz A 0 lv) (n+1) sp own w) (hB:ZBq own w sv lv) {a:Act} (ha:zAr 233 ((14,.int .i64 (j:Int))::LL al n c1 bl n2 c2 lo hi what sp sv) a) {Q:Exit→Act→World→Prop} (hQ:PanicF Q)
 (hexit:∀ a',zAr 233 (LL al n c1 bl n2 c2 lo hi what sp sv) a'→Q (.exit 2) a' w)
 (hnext:j<n2→∀ a' w' own' lv',lv'.length=n→zAr 233 ((14,.int .i64 ((j+1:Nat):Int))::LL al n c1 bl n2 c2 lo hi what sp sv) a'→LawW w0 (ZAz A 0 lv') (n+1) sp own' w'→ZBq own' w' sv lv'→Q .normal a' w'):LB2.wp TZ Q a w:=by
 obtain ⟨s15,s16,s17,s18,s19,s20,s22⟩:=sL2
 have hn50:=hI.n50
 have hn250:=hI.n250
 rw[lb2_is]
 by_cases hj:j<n2∧0<n
 rotate_left
 · have hexit':∀ a1,zAr 233 ((65,.bool false)::LL al n c1 bl n2 c2 lo hi what sp sv) a1→(Code.cond (.tmp 65) .skip (.exit 2)).wp TZ (Exit.then ((Code.seq (.block 3 BD2) (.region 17 OL17 false)).wp TZ Q) Q) a1 w:=fun a1 ha1=>
    zCj (ha1.ev (v:=.bool false) fun f=>rfl) (fun h=>by cases h) (fun _=>Go.wp_exit (hexit a1 (ha1.sub fun g=>by kernel_rfl)))
   by_cases hjn:j<n2
   · have hn0:n=0:=by omega
     subst hn0
     have hd:decide ((j:Int)<(n2:Int))=true:=decide_eq_true (by omega)
     refine wp_seq (wp_seq (ZAg s16 (ZAj (nt:=233) zAh 0 4 [4,5,6,7,8] ((60,.bool (decide ((j:Int)<(n2:Int))))::LL al 0 c1 bl n2 c2 lo hi what sp sv) (by kernel_rfl) (fun g=>by kernel_rfl) (fun g=>by kernel_rfl) ha fun a1 ha1=>?_)))
     rw[hd] at ha1
     refine ZAj (nt:=233) zAh 4 5 [] ((65,.bool false)::LL al 0 c1 bl n2 c2 lo hi what sp sv) (by kernel_rfl) (fun g=>by kernel_rfl) (fun g=>by kernel_rfl) ha1 fun a2 ha2=>?_
     unfold wpOps
     exact hexit' a2 ha2
   · have hd:decide ((j:Int)<(n2:Int))=false:=decide_eq_false (by omega)
     refine wp_seq (wp_seq (ZAg s16 (ZAj (nt:=233) zAh 0 4 [4,5,6,7,8] ((60,.bool (decide ((j:Int)<(n2:Int))))::LL al n c1 bl n2 c2 lo hi what sp sv) (by kernel_rfl) (fun g=>by kernel_rfl) (fun g=>by kernel_rfl) ha fun a1 ha1=>?_)))
     rw[hd] at ha1
     refine ZAj (nt:=233) zAh 4 5 [] ((65,.bool false)::LL al n c1 bl n2 c2 lo hi what sp sv) (by kernel_rfl) (fun g=>by kernel_rfl) (fun g=>by kernel_rfl) ha1 fun a2 ha2=>?_
     unfold wpOps
     exact hexit' a2 ha2
 obtain ⟨hjn,hn0⟩:=hj
 have hd:decide ((j:Int)<(n2:Int))=true:=decide_eq_true (by omega)
 have hd2:decide ((n:Int) > 0)=true:=decide_eq_true (by omega)
 refine wp_seq (wp_seq (ZAg s16 (ZAj (nt:=233) zAh 0 4 [4,5,6,7,8] ((60,.bool (decide ((j:Int)<(n2:Int))))::(14,.int .i64 (j:Int))::LL al n c1 bl n2 c2 lo hi what sp sv) (by kernel_rfl) (fun g=>by kernel_rfl) (fun g=>by kernel_rfl) ha fun a1 ha1=>?_)))
 rw[hd] at ha1
 refine ZAj (nt:=233) zAh 4 5 [] ((65,.bool (decide ((n:Int) > 0)))::(14,.int .i64 (j:Int))::LL al n c1 bl n2 c2 lo hi what sp sv) (by kernel_rfl) (fun g=>by kernel_rfl) (fun g=>by kernel_rfl) ha1 fun a2 ha2=>?_
 unfold wpOps
 rw[hd2] at ha2
 refine zCj (ha2.ev (v:=.bool true) fun f=>rfl) (fun _=>Go.wp_skip ?_) (fun h=>by cases h)
 obtain ⟨ad,rfl,hcell⟩:=hW.cell hI.inb hjn
 have hBj:=hI.b j hjn
 refine wp_seq (wp_block ?_)
 rw[bd2_is]
 refine wp_seq (ZAg s18 (ZAj (nt:=233) zAh 0 2 [2,3,4,5,6,7,8] ((68,.slice (some ad) n2 c2)::(69,.int .i64 (j:Int))::(14,.int .i64 (j:Int))::LL al n c1 (some ad) n2 c2 lo hi what sp sv) (by kernel_rfl) (fun g=>by kernel_rfl) (fun g=>by kernel_rfl) ha2 fun a3 ha3=>?_))
 refine ZBc (nt:=233) l18_2 ((70,.pointer (some (ad.add j)))::(14,.int .i64 (j:Int))::LL al n c1 (some ad) n2 c2 lo hi what sp sv) ha3 (by decide) (fun g=>by kernel_rfl) (fun o ho=>run_ix tz_u22 siz5 ho hjn (ha3.get (t:=68) fun f=>rfl) (ha3.get (t:=69) fun f=>rfl)) (fun g=>by kernel_rfl) fun a4 ha4=>?_
 refine ZBc (nt:=233) l18_3 ((71,.int .u8 (B j:Int))::(14,.int .i64 (j:Int))::LL al n c1 (some ad) n2 c2 lo hi what sp sv) ha4 (by decide) (fun g=>by kernel_rfl) (fun o ho=>zCy pl5 ho (ha4.get (t:=70) fun f=>rfl) hcell) (fun g=>by kernel_rfl) fun a5 ha5=>?_
 refine ZBc (nt:=233) l18_4 ((72,.int .i64 (B j:Int))::(14,.int .i64 (j:Int))::LL al n c1 (some ad) n2 c2 lo hi what sp sv) ha5 (by decide) (fun g=>by kernel_rfl) (fun o ho=>run_cvB ho hBj (ha5.get (t:=71) fun f=>rfl)) (fun g=>by kernel_rfl) fun a6 ha6=>?_
 refine ZAj (nt:=233) zAh 5 2 [7,8] ((72,.int .i64 (B j:Int))::(74,.int .i64 (n:Int))::(14,.int .i64 (j:Int))::LL al n c1 (some ad) n2 c2 lo hi what sp sv) (by kernel_rfl) (fun g=>by kernel_rfl) (fun g=>by kernel_rfl) ha6 fun a7 ha7=>?_
 refine ZBc (nt:=233) l18_7 ((75,.int .i64 ((B j % n:Nat):Int))::(14,.int .i64 (j:Int))::LL al n c1 (some ad) n2 c2 lo hi what sp sv) ha7 (by decide) (fun g=>by kernel_rfl) (fun o ho=>run_remT ho hn0 (ha7.get (t:=72) fun f=>rfl) (ha7.get (t:=74) fun f=>rfl)) (fun g=>by kernel_rfl) fun a8 ha8=>?_
 refine ZAj (nt:=233) zAh 8 1 [] (LM al n c1 (some ad) n2 c2 lo hi what sp sv j (B j % n)) (by kernel_rfl) (fun g=>by kernel_rfl) (fun g=>by kernel_rfl) ha8 fun a9 ha9=>?_
 unfold wpOps
 refine body2 hI hlv (Nat.mod_lt _ hn0) hW hB ha9 (panic_block (zAq hQ)) fun a10 w10 own10 ha10 hW10 hB10=>?_
 refine ZAg s17 (ZAj (nt:=233) zAh 0 1 [1,2] ((66,.int .i64 (j:Int))::LL al n c1 (some ad) n2 c2 lo hi what sp sv) (by kernel_rfl) (fun g=>by kernel_rfl) (fun g=>by kernel_rfl) ha10 fun a13 ha13=>?_)
 refine ZBc (nt:=233) l17_1 ((67,.int .i64 ((j+1:Nat):Int))::LL al n c1 (some ad) n2 c2 lo hi what sp sv) ha13 (by decide) (fun g=>by kernel_rfl) (fun o ho=>run_inc ho (by omega) (ha13.get (t:=66) fun f=>rfl)) (fun g=>by kernel_rfl) fun a14 ha14=>?_
 refine ZAj (nt:=233) zAh 2 1 [] ((14,.int .i64 ((j+1:Nat):Int))::LL al n c1 (some ad) n2 c2 lo hi what sp sv) (by kernel_rfl) (fun g=>by kernel_rfl) (fun g=>by kernel_rfl) ha14 fun a15 ha15=>?_
 unfold wpOps
 exact hnext hjn a15 w10 own10 _ (by rw[List.length_set]; exact hlv) ha15 hW10 hB10
end
end Go.AM
namespace Go.AM
open Go.Proofs
def zeroW:List AVal:=[.int .i64 (.ofNat 0),.nilslice,.int .i64 (.ofNat 0),.int .i64 (.ofNat 0),.str [],.int .i64 (.ofNat 0),.int .i64 (.ofNat 0),.str [],.bool false,.bool false]
def bx23:Bool:=match zCg TZ 233 K0 OL23 OL23.toList [] [17] (zAe 2 0 .none []) with
 | .ok (.tuple [x]) m=>and (absN (zAx 2 [nmOf x]) 4 (.ptr 3 0) x) (zAp (zAx 2 [nmOf x]) 0 .none [.cells false zeroW] m)
 |_=>false
def wayE (md:Nat):List Blk:=zAc [.cells true [.int .i64 2,.opq 12,.str []]] [] (Nat.beq md 3)
def wayNs (md:Nat) (m:Mem):List Nat:=zAc [3,nmOf (zBq m 3 1)] [3] (Nat.beq md 3)
def bxRun (md:Nat) (O:Array Oper) (i:Nat) (l:List (Nat×AVal)):Bool:=match zCg TZ 233 K0 O (ZAe i O.toList) l [17] (zAe 2 0 .none [.cells false zeroW]) with
 | .ok (.tuple [_]) m=>and (zAc (Nat.ble 4 (nmOf (zBq m 3 1))) true (Nat.beq md 3)) (zAp (zAx 2 (wayNs md m)) 0 .none (.cells false (wayL 4 md)::wayE md) m)
 |_=>false
theorem bx_23:bx23=true:=by kernel_rfl
theorem bx_27:bxRun 0 OL27 2 [(17,.ptr 3 0),(112,.opq 12)]=true:=by kernel_rfl
theorem bx_29:bxRun 1 OL29 2 [(17,.ptr 3 0),(119,.opq 13)]=true:=by kernel_rfl
theorem bx_31:bxRun 2 OL31 5 [(17,.ptr 3 0),(127,.agg [.int .i64 2,.opq 12,.str []]),(129,.opq 13)]=true:=by kernel_rfl
theorem bx_25:bxRun 3 OL25 2 [(17,.ptr 3 0),(105,.opq 12)]=true:=by kernel_rfl
end Go.AM
namespace Go.AM
open Go.Proofs
def zeroX:List Value:=[.int .i64 0,nilS,.int .i64 0,.int .i64 0,.string ByteArray.empty,.int .i64 0,.int .i64 0,.string ByteArray.empty,.bool false,.bool false]
theorem zeroW_rel {T:Tok} (φ:Phi):@zAa T φ zeroW zeroX:=by
 have z:@VRel T φ (.int .i64 (.ofNat 0)) (.int .i64 0):=@VRel.int T φ .i64 0
 have s:@VRel T φ (.str []) (.string ByteArray.empty):=str0X
 have f:@VRel T φ (.bool false) (.bool false):=@VRel.bool T φ false
 exact @zAa.cons T _ _ _ _ _ z (@zAa.cons T _ _ _ _ _ (@VRel.nilslice T φ) (@zAa.cons T _ _ _ _ _ z (@zAa.cons T _ _ _ _ _ z (@zAa.cons T _ _ _ _ _ s (@zAa.cons T _ _ _ _ _ z (@zAa.cons T _ _ _ _ _ z (@zAa.cons T _ _ _ _ _ s (@zAa.cons T _ _ _ _ _ f (@zAa.cons T _ _ _ _ _ f (@zAa.nil T _))))))))))
theorem zeroW_un {T:Tok} {φ:Phi} {us:List Value} (h:@zAa T φ zeroW us):us=zeroX:=by
 unfold zeroW at h
 cases h with
 |cons h1 h=>
 cases h with
 |cons h2 h=>
 cases h with
 |cons h3 h=>
 cases h with
 |cons h4 h=>
 cases h with
 |cons h5 h=>
 cases h with
 |cons h6 h=>
 cases h with
 |cons h7 h=>
 cases h with
 |cons h8 h=>
 cases h with
 |cons h9 h=>
 cases h with
 |cons h10 h=>
 cases h
 rw[intE h1,intE h3,intE h4,strE h5,intE h6,intE h7,strE h8]
 cases h2
 cases h9
 cases h10
 rfl
theorem zeroW_cell:∀ v,v∈zeroW→v.isCell=true:=fun v hv=>List.all_eq_true.1 (show zeroW.all AVal.isCell=true by kernel_rfl) v hv
def wVals (lo hi:Int) (j:Nat):Value:=if j=12 then .int .i64 lo else .int .i64 hi
theorem wVals_cell (lo hi:Int) (j:Nat):(wVals lo hi j).oneCell'=true:=by
 unfold wVals
 split<;>rfl
theorem box_rel {w:World} (hgs:2≤w.heap.size) {xb:Img} (hx:WRow w xb zeroX) (T:Tok) (hT:T.hold=noH) (hst:T.strong=false):@Rel T TZ (ZAh 2 [xb]) (zAe 2 0 .none [.cells false zeroW]) w∧∀ q b o s,q<(zAe 2 0 .none [Blk.cells false zeroW]).next→((zAe 2 0 .none [Blk.cells false zeroW]).get q).wr=true→ZAh 2 [xb] q=some (b,o,s)→q=3∧b=xb.1:=by
 have f3:ZAh 2 [xb] 3=some xb:=rfl
 refine ⟨?_,fun q b o s hq hw hφ=>?_⟩
 · refine mkRelW ZAa (by decide) hgs rfl (by show 2+1+1≤65536; decide) (fun i b z hb hw hz=>?_) (fun z hz=>?_) (fun i b hb=>?_) (fun b o h=>by rw[hT] at h; cases h)
   · refine ⟨by rw[hT]; rfl,fun j z' hz' hj=>?_⟩
     have h1:=zAf hz
     have h2:=zAf hz'
     simp at h1 h2
     omega
   · rw[List.mem_singleton] at hz
     subst hz
     exact hx.lt
   · match i,hb with
     |0,hb=>
      cases hb
      exact hx.brel (T:=T) hst f3 (zeroW_rel _) zeroW_cell
     |i+1,hb=>simp at hb
 · have hn:(zAe 2 0 .none [Blk.cells false zeroW]).next=4:=ZAt _ _
   rw[hn] at hq
   rw[zAu (by decide) (by show 2+1+1≤65536; decide) (by omega)] at hw
   match q,hq with
   |0,_=>cases hw
   |1,_=>cases hw
   |2,_=>cases hw
   |3,_=>rw[f3] at hφ; cases hφ; exact ⟨rfl,rfl⟩
theorem box_end {T:Tok} (hst0:T.strong=false) {v:WayV} (hmd:v.md<4) (h12:T.val 12=.int .i64 v.lo) (h13:T.val 13=.int .i64 v.hi) {own:Nat→Nat} {w w':World} {xb:Img} (hx:WRow w xb zeroX) (hown:own xb.1=3) (hT:T.hold=noH) (hgs:2≤w.heap.size) {φ':Phi} {mf:Mem} (hst:@Step T TZ (ZAh 2 [xb]) (zAe 2 0 .none [.cells false zeroW]) w φ' mf w')
 (hfr:zAc (Nat.ble 4 (nmOf (zBq mf 3 1))) true (Nat.beq v.md 3)=true) (habs:zAp (zAx 2 (wayNs v.md mf)) 0 .none (.cells false (wayL 4 v.md)::wayE v.md) mf=true) :
 ∃ eqv,WRow w' xb (v.cells eqv)∧EqAt (zAk w') v eqv∧OGo 3 own w (extO own w 0) w'∧∀ x:Img,eqv=.slice (some ⟨x.1,x.2.1,none⟩) 1 1→extO own w 0 x.1=0:=by
 obtain ⟨_,hwr⟩:=box_rel hgs hx T hT hst0
 have rl:=@Step.rel T TZ _ _ _ _ _ _ hst
 obtain ⟨r1,_⟩:=idAbs (T:=T) hst0 rl habs
 have hg:OGo 3 own w (extO own w 0) w':=
  ⟨⟨fun b hb hne=>@Step.frame T TZ _ _ _ _ _ _ hst b hb fun q o s hq hw hφ=>hne (by rw[(hwr q b o s hq hw hφ).2]; exact hown),@Step.size T TZ _ _ _ _ _ _ hst,@Step.os T TZ _ _ _ _ _ _ hst,@Step.out T TZ _ _ _ _ _ _ hst,@Step.tape T TZ _ _ _ _ _ _ hst⟩,fun _ hb=>extO_lt hb⟩
 have hlenE:(wayE v.md).length≤1:=by
  unfold wayE
  rw[zAn]
  split
  · exact Nat.le_refl 1
  · exact Nat.zero_le 1
 have hlen:2+1+(Blk.cells false (wayL 4 v.md)::wayE v.md).length≤65536:=by rw[List.length_cons]; omega
 obtain ⟨c1,c2⟩:=zAv (b0:=.none) hlen (i:=0) rfl
 obtain ⟨x,us,i1,i2,i3⟩:=WRow.of (T:=T) r1 c1 c2
 have hns0:(wayNs v.md mf)[0]? = some 3:=by
  unfold wayNs
  rw[zAn]
  split<;>rfl
 have e3:zAj (zAx 2 (wayNs v.md mf)) φ' (3+0)=φ' 3:=ZAo (σ:=zAx 2 (wayNs v.md mf)) rfl hns0
 have f3:ZAh 2 [xb] 3=some xb:=rfl
 have hx3:=@Step.ext T TZ _ _ _ _ _ _ hst 3 xb f3
 have hxx:x=xb:=by
  have h:=e3.symm.trans i1
  rw[hx3] at h
  cases h; rfl
 subst hxx
 obtain ⟨u,rfl,hu⟩:=way_un (T:=T) hmd h12 h13 i3
 by_cases h3:v.md=3
 rotate_left
 · unfold wayEq at hu
   rw[zAn,if_neg (fun h=>h3 (beq_true.1 h))] at hu
   cases hu
   exact ⟨nilS,i2,.inl ⟨h3,rfl⟩,hg,fun x h=>by cases h⟩
 · have hb3:Nat.beq v.md 3=true:=beq_true.2 h3
   have eE:wayE v.md=[.cells true [.int .i64 2,.opq 12,.str []]]:=by
    unfold wayE
    rw[hb3]; rfl
   have eN:wayNs v.md mf=[3,nmOf (zBq mf 3 1)]:=by
    unfold wayNs
    rw[hb3]; rfl
   rw[hb3] at hfr
   have hfr':4≤nmOf (zBq mf 3 1):=zAd.1 hfr
   unfold wayEq at hu
   rw[hb3] at hu
   have hu':@VRel T (zAj (zAx 2 (wayNs v.md mf)) φ') (.slice 4 0 1 1 true 3) u:=hu
   have h1:(Blk.cells false (wayL 4 v.md)::wayE v.md)[1]? = some (.cells true [.int .i64 2,.opq 12,.str []]):=by rw[eE]; rfl
   obtain ⟨d1,d2⟩:=zAv (b0:=.none) hlen h1
   obtain ⟨y,ys,j1,j2,j3⟩:=ZBd (P:=TZ) zBu r1 d1 d2
   obtain ⟨y1,y2,y3,rfl,k1,k2,k3⟩:=vs3 j3
   have hcy:zAi (zAk w') y [.int .i64 2,.int .i64 v.lo,.string ByteArray.empty]:=by
    have e1:=intE k1
    have e2:=(ZAw k2).trans h12
    have e3:=strE k3
    subst e1
    subst e2
    subst e3
    exact j2
   have hcu:=slice_isX (by decide) hu' j1
   refine ⟨u,i2,.inr ⟨h3,y,hcu,?_,hcy⟩,hg,fun z hz=>?_⟩
   · obtain ⟨c,el,fz,_,g2,g3,_⟩:=hcy
     rw[g2]; exact g3
   · rw[hcu] at hz
     injection hz with hz _ _
     injection hz with hz
     injection hz with hz _ _
     rw[← hz]
     rcases Nat.lt_or_ge y.1 w.heap.size with hb|hb
     rotate_left
     · exact extO_ge hb
     exfalso
     have hn1:(zAx 2 (wayNs v.md mf)).ns[1]? = some (nmOf (zBq mf 3 1)):=by
      show (wayNs v.md mf)[1]? = _
      rw[eN]; rfl
     obtain ⟨w1,w2,w3⟩:=abs_at (σ:=zAx 2 (wayNs v.md mf)) rfl habs h1 hn1
     have j1':φ' (nmOf (zBq mf 3 1))=some y:=(ZAo (σ:=zAx 2 (wayNs v.md mf)) rfl hn1).symm.trans j1
     have hnx:(zAe 2 0 .none [Blk.cells false zeroW]).next=4:=ZAt _ _
     obtain ⟨q,o'',s'',g1,g2,g3⟩:=@Step.img T TZ _ _ _ _ _ _ hst _ y.1 y.2.1 y.2.2 (by rw[hnx]; exact hfr') w2 (ZCf w3 rfl) j1' hb
     have hyx:=(hwr q _ _ _ g1 g2 g3).2
     exact img_ne (T:=T) (p:=3+0) (q:=3+1) (x:=x) (y:=y) r1 (by decide) c1 d1 (by rw[c2]; rfl) (by rw[d2]; rfl) i1 j1 hyx.symm
theorem l27_1:OpG OL27 1 112 (.convert 71 2 (.tmp 111)) none:=opG (by kernel_rfl) (by kernel_rfl) (by kernel_rfl) (by kernel_rfl)
theorem l29_1:OpG OL29 1 119 (.convert 71 2 (.tmp 118)) none:=opG (by kernel_rfl) (by kernel_rfl) (by kernel_rfl) (by kernel_rfl)
theorem l31_1:OpG OL31 1 126 (.convert 71 2 (.tmp 125)) none:=opG (by kernel_rfl) (by kernel_rfl) (by kernel_rfl) (by kernel_rfl)
theorem l31_2:CallG OL31 2 127 18 [.tmp 126] none:=callG (by kernel_rfl) (by kernel_rfl) (by kernel_rfl) (by kernel_rfl)
theorem l31_4:OpG OL31 4 129 (.convert 71 2 (.tmp 128)) none:=opG (by kernel_rfl) (by kernel_rfl) (by kernel_rfl) (by kernel_rfl)
theorem l25_1:OpG OL25 1 105 (.convert 71 2 (.tmp 104)) none:=opG (by kernel_rfl) (by kernel_rfl) (by kernel_rfl) (by kernel_rfl)
theorem l24_1:OpG OL24 1 103 (.binOp .rem 5 (.tmp 102) (.const (.int .u8 4)) 5) none:=opG (by kernel_rfl) (by kernel_rfl) (by kernel_rfl) (by kernel_rfl)
theorem gBX:(ZAe 2 OL27.toList).all (ZBo TZ.globals.size)=true∧(ZAe 2 OL29.toList).all (ZBo TZ.globals.size)=true∧(ZAe 5 OL31.toList).all (ZBo TZ.globals.size)=true∧(ZAe 2 OL25.toList).all (ZBo TZ.globals.size)=true∧OL23.toList.all (ZBo TZ.globals.size)=true:=⟨by kernel_rfl,by kernel_rfl,by kernel_rfl,by kernel_rfl,by kernel_rfl⟩
theorem lBX:(ZAe 2 OL27.toList).length=5∧(ZAe 2 OL29.toList).length=5∧(ZAe 5 OL31.toList).length=9∧(ZAe 2 OL25.toList).length=4∧OL23.toList.length=3:=⟨by kernel_rfl,by kernel_rfl,by kernel_rfl,by kernel_rfl,by kernel_rfl⟩
theorem tBX:(OL27.toList.drop 2).take (ZAe 2 OL27.toList).length=ZAe 2 OL27.toList∧(OL29.toList.drop 2).take (ZAe 2 OL29.toList).length=ZAe 2 OL29.toList∧(OL31.toList.drop 5).take (ZAe 5 OL31.toList).length=ZAe 5 OL31.toList∧(OL25.toList.drop 2).take (ZAe 2 OL25.toList).length=ZAe 2 OL25.toList∧(OL23.toList.drop 0).take OL23.toList.length=OL23.toList:=⟨by kernel_rfl,by kernel_rfl,by kernel_rfl,by kernel_rfl,by kernel_rfl⟩
end Go.AM
namespace Go.AM
open Go.Proofs
theorem LawW.goT {w0 w w':World} {rows:List RowW} {next:Nat} {sp:Value} {own own':Nat→Nat} (h:LawW w0 rows next sp own w) {t:Nat} (h0:t≠0) (h1:t≠1) (hg:OGo t own w own' w'):LawW w0 rows next sp own' w':=by
 obtain ⟨hok,hS⟩:=h.st
 exact h.to h0 hg ⟨hok,hS.move hg h1 h0⟩
theorem run_rem4w {a:Act} {w:World} {o:Oper} {x t t2:Nat} (h:o.op=.binOp .rem t (.tmp x) (.const (.int .u8 4)) t2) {z:Nat} (hx:a.tmps.getD x undef=.int .u8 (z:Int)):(execOp a.eval o).run TZ w=.ok (.value (.int .u8 ((z % 4:Nat):Int))) w:=by
 have e:Int.tmod (z:Int) 4=(z:Int) % 4:=Int.tmod_eq_emod_of_nonneg (Int.natCast_nonneg z)
 simp[execOp,h,Act.eval,hx,eqGuard,binOp,Op.intDiv,e]
theorem box_run {own:Nat→Nat} {w:World} (hgs:2≤w.heap.size) {xb:Img} (hx:WRow w xb zeroX) (hown:own xb.1=3) {v:WayV} (hmd:v.md<4) {O:Array Oper} {i n:Nat} {l:List (Nat×AVal)} (hrun:bxRun v.md O i l=true) (hd:(O.toList.drop i).take (ZAe i O.toList).length=ZAe i O.toList) (hg:(ZAe i O.toList).all (ZBo TZ.globals.size)=true) (hlen:(ZAe i O.toList).length=n)
 {a:Act} {L:List (Nat×Value)} (ha:zAr 233 L a) (hl:∀ (T:Tok) (φ:Phi),φ 3=some xb→T.val 12=.int .i64 v.lo→T.val 13=.int .i64 v.hi→∀ p,p∈l→p.1<4096∧@VRel T φ p.2 (a.tmps.getD p.1 undef)) (L':List (Nat×Value)) (hk:(L'.all fun p=>keptR (ZAe i O.toList) p.1)=true) (hsub:∀ g,(L'.map fun p=>setL L g p.1)=L'.map Prod.snd) {Q:Exit→Act→World→Prop}
 (hn:∀ a' w' eqv,zAr 233 L' a'→WRow w' xb (v.cells eqv)→EqAt (zAk w') v eqv→OGo 3 own w (extO own w 0) w'→(∀ x:Img,eqv=.slice (some ⟨x.1,x.2.1,none⟩) 1 1→extO own w 0 x.1=0)→Q .normal a' w'):wpOps TZ O Q (List.range' i n) a w:=by
 unfold bxRun at hrun
 split at hrun
 rotate_left
 · cases hrun
 rename_i y mf hq
 rw[Bool.and_eq_true] at hrun
 obtain ⟨hfr,habs⟩:=hrun
 let T:Tok:=tokH noH (wVals v.lo v.hi) (wVals_cell v.lo v.hi)
 obtain ⟨hr,_⟩:=box_rel hgs hx T rfl rfl
 rw[← hlen,← List.append_nil (List.range' i _)]
 refine vam (T:=T) (@ZBt T) i (ZAe i O.toList) hd hg hq hr (by decide) ha (hl T _ rfl rfl rfl) L' hk hsub fun φ' a' w' hst ha' _=>?_
 obtain ⟨eqv,h1,h2,h3,h4⟩:=box_end (T:=T) rfl hmd rfl rfl hx hown rfl hgs hst hfr habs
 unfold wpOps
 exact hn a' w' eqv ha' h1 h2 h3 h4
section
variable {w0:World} {al bl:Option Addr} {n c1 n2 c2 what:Nat} {lo hi:Int} {A B:Nat→Nat} {sp:Value}
attribute [local irreducible] OL23 OL24 OL25 OL26 OL27 OL28 OL29 OL30 OL31 in
theorem wayBox {rows:List RowW} {next:Nat} {own:Nat→Nat} {w:World} {sv:Value} {lv:List Bool} (hlo:-128≤lo∧lo<128) (hhi:-128≤hi∧hi<128) (hW:LawW w0 rows next sp own w) (hB:ZBq own w sv lv) {a:Act} (ha:zAr 233 (LL al n c1 bl n2 c2 lo hi what sp sv) a) {rest:Code} {Q:Exit→Act→World→Prop}
 (hn:∀ a' w' own' xb eqv,zAr 233 ((17,ptrV xb)::LL al n c1 bl n2 c2 lo hi what sp sv) a'→LawW w0 rows next sp own' w'→ZBq own' w' sv lv→own' xb.1=3→WRow w' xb (WayV.cells ⟨what % 4,lo,hi⟩ eqv)→EqAt (zAk w') ⟨what % 4,lo,hi⟩ eqv→(∀ x:Img,eqv=.slice (some ⟨x.1,x.2.1,none⟩) 1 1→own' x.1=0)→rest.wp TZ Q a' w') :
 (Code.seq (.region 23 OL23 false) (.seq (.seq (.region 24 OL24 false) (.block 4 WY)) rest)).wp TZ Q a w:=by
 obtain ⟨s23,s24,s26,s27,s28,s29,s30,s31,s25,s32⟩:=sL3
 obtain ⟨g27,g29,g31,g25,g23⟩:=gBX
 obtain ⟨l27,l29,l31,l25,l23⟩:=lBX
 obtain ⟨t27,t29,t31,t25,t23⟩:=tBX
 have hrun:=bx_23
 unfold bx23 at hrun
 split at hrun
 rotate_left
 · cases hrun
 rename_i x mf hq
 rw[Bool.and_eq_true] at hrun
 obtain ⟨hz,habs⟩:=hrun
 have hr:@Rel tokN TZ (ZAh 2 []) (zAe 2 0 .none []) w:=none_rel hW.gs fun b o h=>by cases h
 refine wp_seq (ZAg s23 ?_)
 have hrange:List.range 3=List.range' 0 OL23.toList.length++[]:=by rw[l23]; rfl
 rw[hrange]
 refine vam (T:=tokN) (@ZBt tokN) 0 OL23.toList t23 g23 hq hr (by decide) ha (fun p hp=>by cases hp) (LL al n c1 bl n2 c2 lo hi what sp sv) (by kernel_rfl) (fun g=>by kernel_rfl) fun φ' a1 w1 hst ha1 hv=>?_
 have hl1:=ZAb.of hst nil_wr
 obtain ⟨r1,r2⟩:=idAbs (T:=tokN) rfl (@Step.rel tokN TZ _ _ _ _ _ _ hst) habs
 obtain ⟨c1',c2'⟩:=zAv (b0:=.none) (l:=[.cells false zeroW]) (by show 2+1+1≤65536; decide) (i:=0) rfl
 obtain ⟨xb,us,i1,i2,i3⟩:=WRow.of (T:=tokN) r1 c1' c2'
 have hus:=zeroW_un i3
 subst hus
 have h17:a1.tmps.getD 17 undef=ptrV xb:=by
  obtain ⟨y,hy,e⟩:=ptr_ex (r2 _ _ hz _ (ZAr hv (i:=0) (t:=17) rfl rfl))
  have h:=i1.symm.trans hy
  cases h
  exact e
 have hxn:w.heap.size≤xb.1:=by
  rcases Nat.lt_or_ge xb.1 w.heap.size with hb|hb
  rotate_left
  · exact hb
  obtain ⟨w1',w2',w3'⟩:=abs_at (σ:=zAx 2 [nmOf x]) rfl habs (j:=0) rfl rfl
  have i1':φ' (nmOf x)=some xb:=(ZAo (σ:=zAx 2 [nmOf x]) (φ:=φ') (i:=0) rfl rfl).symm.trans i1
  obtain ⟨q,o'',s'',g1,g2,g3⟩:=@Step.img tokN TZ _ _ _ _ _ _ hst _ xb.1 xb.2.1 xb.2.2 (show 3≤_ from w1') w2' (ZCf w3' rfl) i1' hb
  rw[nil_wr q g1] at g2; cases g2
 have hW1:=hW.go (ogo_new 2 3 hl1)
 have hB1:=hB.move (ogo_new 1 3 hl1) (by decide)
 have hown1:extO own w 3 xb.1=3:=extO_ge hxn
 generalize extO own w 3=own1 at hW1 hB1 hown1
 have ha1':=ha1.add h17
 unfold wpOps
 refine wp_seq (wp_seq (ZAg s24 (ZAj (nt:=233) zAh 0 1 [1] ((102,.int .u8 (what:Int))::(17,ptrV xb)::LL al n c1 bl n2 c2 lo hi what sp sv) (by kernel_rfl) (fun g=>by kernel_rfl) (fun g=>by kernel_rfl) ha1' fun a2 ha2=>?_)))
 refine ZBc (nt:=233) l24_1 ((103,.int .u8 ((what % 4:Nat):Int))::(17,ptrV xb)::LL al n c1 bl n2 c2 lo hi what sp sv) ha2 (by decide) (fun g=>by kernel_rfl) (fun o ho=>run_rem4w ho (ha2.get (t:=102) fun f=>rfl)) (fun g=>by kernel_rfl) fun a3 ha3=>?_
 unfold wpOps
 rw[wy_is]
 have hgs1:=hW1.gs
 have hx1:xb.1<w1.heap.size:=i2.lt
 have fin:∀ a' w' eqv (own2:Nat→Nat),zAr 233 ((17,ptrV xb)::LL al n c1 bl n2 c2 lo hi what sp sv) a'→WRow w' xb (WayV.cells ⟨what % 4,lo,hi⟩ eqv)→EqAt (zAk w') ⟨what % 4,lo,hi⟩ eqv→OGo 3 own1 w1 own2 w'→(∀ x:Img,eqv=.slice (some ⟨x.1,x.2.1,none⟩) 1 1→own2 x.1=0)→rest.wp TZ Q a' w':=fun a' w' eqv own2 ha' hx he hg heo=>
  hn a' w' own2 xb eqv ha' (hW1.goT (by decide) (by decide) hg) (hB1.move hg (by decide)) ((hg.2 _ hx1).trans hown1) hx he heo
 have hm4:what % 4<4:=Nat.mod_lt _ (by decide)
 generalize what % 4=md at hm4 fin ha3
 refine wp_block ?_
 match md,hm4 with
 |0,_=>
  refine wp_seq (vreg (nt:=233) zAh s26 ((109,.bool true)::(17,ptrV xb)::LL al n c1 bl n2 c2 lo hi what sp sv) (fun g=>by kernel_rfl) (fun g=>by kernel_rfl) ha3 fun a4 ha4=>?_)
  refine zCj (ha4.ev (v:=.bool true) fun f=>rfl) (fun _=>?_) (fun h=>by cases h)
  refine ZAg s27 (ZAj (nt:=233) zAh 0 1 [1,2,3,4,5,6] ((111,.int .i8 lo)::(17,ptrV xb)::LL al n c1 bl n2 c2 lo hi what sp sv) (by kernel_rfl) (fun g=>by kernel_rfl) (fun g=>by kernel_rfl) ha4 fun a5 ha5=>?_)
  refine ZBc (nt:=233) l27_1 ((112,.int .i64 lo)::(17,ptrV xb)::LL al n c1 bl n2 c2 lo hi what sp sv) ha5 (by decide) (fun g=>by kernel_rfl) (fun o ho=>run_cvI ho hlo (ha5.get (t:=111) fun f=>rfl)) (fun g=>by kernel_rfl) fun a6 ha6=>?_
  refine box_run (n:=5) hgs1 i2 hown1 (v:=⟨0,lo,hi⟩) (show 0<4 by decide) bx_27 t27 g27 l27 ha6 (fun T φ h3 t12 t13 p hp=>?_) ((17,ptrV xb)::LL al n c1 bl n2 c2 lo hi what sp sv) (by kernel_rfl) (fun g=>by kernel_rfl) fun a7 w7 eqv ha7 hx7 he7 hg7 heo7=>fin a7 w7 eqv _ ha7 hx7 he7 hg7 heo7
  simp only[List.mem_cons,List.not_mem_nil,or_false] at hp
  rcases hp with rfl|rfl
  · refine ⟨(by decide:17<4096),?_⟩
    show @VRel T φ (.ptr 3 0) (a6.tmps.getD 17 undef)
    rw[ha6.get (t:=17) (v:=ptrV xb) fun f=>rfl]
    exact @VRel.ptr T φ 3 0 xb.1 xb.2.1 xb.2.2 h3
  · refine ⟨(by decide:112<4096),?_⟩
    show @VRel T φ (.opq 12) (a6.tmps.getD 112 undef)
    rw[ha6.get (t:=112) (v:=.int .i64 lo) fun f=>rfl,← t12]
    exact @VRel.opq T φ 12
 |1,_=>
  refine wp_seq (vreg (nt:=233) zAh s26 ((103,.int .u8 ((1:Nat):Int))::(109,.bool false)::(17,ptrV xb)::LL al n c1 bl n2 c2 lo hi what sp sv) (fun g=>by kernel_rfl) (fun g=>by kernel_rfl) ha3 fun a4 ha4=>?_)
  refine zCj (ha4.ev (v:=.bool false) fun f=>rfl) (fun h=>by cases h) (fun _=>?_)
  refine wp_seq (vreg (nt:=233) zAh s28 ((116,.bool true)::(17,ptrV xb)::LL al n c1 bl n2 c2 lo hi what sp sv) (fun g=>by kernel_rfl) (fun g=>by kernel_rfl) ha4 fun a4 ha4=>?_)
  refine zCj (ha4.ev (v:=.bool true) fun f=>rfl) (fun _=>?_) (fun h=>by cases h)
  refine ZAg s29 (ZAj (nt:=233) zAh 0 1 [1,2,3,4,5,6] ((118,.int .i8 hi)::(17,ptrV xb)::LL al n c1 bl n2 c2 lo hi what sp sv) (by kernel_rfl) (fun g=>by kernel_rfl) (fun g=>by kernel_rfl) ha4 fun a5 ha5=>?_)
  refine ZBc (nt:=233) l29_1 ((119,.int .i64 hi)::(17,ptrV xb)::LL al n c1 bl n2 c2 lo hi what sp sv) ha5 (by decide) (fun g=>by kernel_rfl) (fun o ho=>run_cvI ho hhi (ha5.get (t:=118) fun f=>rfl)) (fun g=>by kernel_rfl) fun a6 ha6=>?_
  refine box_run (n:=5) hgs1 i2 hown1 (v:=⟨1,lo,hi⟩) (show 1<4 by decide) bx_29 t29 g29 l29 ha6 (fun T φ h3 t12 t13 p hp=>?_) ((17,ptrV xb)::LL al n c1 bl n2 c2 lo hi what sp sv) (by kernel_rfl) (fun g=>by kernel_rfl) fun a7 w7 eqv ha7 hx7 he7 hg7 heo7=>fin a7 w7 eqv _ ha7 hx7 he7 hg7 heo7
  simp only[List.mem_cons,List.not_mem_nil,or_false] at hp
  rcases hp with rfl|rfl
  · refine ⟨(by decide:17<4096),?_⟩
    show @VRel T φ (.ptr 3 0) (a6.tmps.getD 17 undef)
    rw[ha6.get (t:=17) (v:=ptrV xb) fun f=>rfl]
    exact @VRel.ptr T φ 3 0 xb.1 xb.2.1 xb.2.2 h3
  · refine ⟨(by decide:119<4096),?_⟩
    show @VRel T φ (.opq 13) (a6.tmps.getD 119 undef)
    rw[ha6.get (t:=119) (v:=.int .i64 hi) fun f=>rfl,← t13]
    exact @VRel.opq T φ 13
 |2,_=>
  refine wp_seq (vreg (nt:=233) zAh s26 ((103,.int .u8 ((2:Nat):Int))::(109,.bool false)::(17,ptrV xb)::LL al n c1 bl n2 c2 lo hi what sp sv) (fun g=>by kernel_rfl) (fun g=>by kernel_rfl) ha3 fun a4 ha4=>?_)
  refine zCj (ha4.ev (v:=.bool false) fun f=>rfl) (fun h=>by cases h) (fun _=>?_)
  refine wp_seq (vreg (nt:=233) zAh s28 ((103,.int .u8 ((2:Nat):Int))::(116,.bool false)::(17,ptrV xb)::LL al n c1 bl n2 c2 lo hi what sp sv) (fun g=>by kernel_rfl) (fun g=>by kernel_rfl) ha4 fun a4 ha4=>?_)
  refine zCj (ha4.ev (v:=.bool false) fun f=>rfl) (fun h=>by cases h) (fun _=>?_)
  refine wp_seq (vreg (nt:=233) zAh s30 ((123,.bool true)::(17,ptrV xb)::LL al n c1 bl n2 c2 lo hi what sp sv) (fun g=>by kernel_rfl) (fun g=>by kernel_rfl) ha4 fun a4 ha4=>?_)
  refine zCj (ha4.ev (v:=.bool true) fun f=>rfl) (fun _=>?_) (fun h=>by cases h)
  refine ZAg s31 (ZAj (nt:=233) zAh 0 1 [1,2,3,4,5,6,7,8,9,10,11,12,13] ((125,.int .i8 lo)::(17,ptrV xb)::LL al n c1 bl n2 c2 lo hi what sp sv) (by kernel_rfl) (fun g=>by kernel_rfl) (fun g=>by kernel_rfl) ha4 fun a5 ha5=>?_)
  refine ZBc (nt:=233) l31_1 ((126,.int .i64 lo)::(17,ptrV xb)::LL al n c1 bl n2 c2 lo hi what sp sv) ha5 (by decide) (fun g=>by kernel_rfl) (fun o ho=>run_cvI ho hlo (ha5.get (t:=125) fun f=>rfl)) (fun g=>by kernel_rfl) fun a6 ha6=>?_
  refine vcall l31_2 (fun c=>(127,c)::(17,ptrV xb)::LL al n c1 bl n2 c2 lo hi what sp sv) ha6 (by decide) (fun g=>by kernel_rfl) (args:=[.int .i64 lo]) (fun g=>by kernel_rfl) (num_ok hgs1) (fun c g=>by kernel_rfl) fun c7 a7 w7 hR7 ha7=>?_
  obtain ⟨rfl,hl7⟩:=hR7
  refine ZAj (nt:=233) zAh 3 1 [4,5,6,7,8,9,10,11,12,13] ((128,.int .i8 hi)::(127,.agg #[.int .i64 2,.int .i64 lo,.string ByteArray.empty])::(17,ptrV xb)::LL al n c1 bl n2 c2 lo hi what sp sv) (by kernel_rfl) (fun g=>by kernel_rfl) (fun g=>by kernel_rfl) ha7 fun a8 ha8=>?_
  refine ZBc (nt:=233) l31_4 ((129,.int .i64 hi)::(127,.agg #[.int .i64 2,.int .i64 lo,.string ByteArray.empty])::(17,ptrV xb)::LL al n c1 bl n2 c2 lo hi what sp sv) ha8 (by decide) (fun g=>by kernel_rfl) (fun o ho=>run_cvI ho hhi (ha8.get (t:=128) fun f=>rfl)) (fun g=>by kernel_rfl) fun a9 ha9=>?_
  have hx7:=i2.at_ (hl7.1 _ hx1)
  have hown7:extO own1 w1 0 xb.1=3:=by rw[extO_lt hx1]; exact hown1
  refine box_run (n:=9) (own:=extO own1 w1 0) (Nat.le_trans hgs1 hl7.2.1) hx7 hown7 (v:=⟨2,lo,hi⟩) (show 2<4 by decide) bx_31 t31 g31 l31 ha9 (fun T φ h3 t12 t13 p hp=>?_) ((17,ptrV xb)::LL al n c1 bl n2 c2 lo hi what sp sv) (by kernel_rfl) (fun g=>by kernel_rfl) fun a10 w10 eqv ha10 hx10 he10 hg10 heo10=>?_
  · simp only[List.mem_cons,List.not_mem_nil,or_false] at hp
    rcases hp with rfl|rfl|rfl
    · refine ⟨(by decide:17<4096),?_⟩
      show @VRel T φ (.ptr 3 0) (a9.tmps.getD 17 undef)
      rw[ha9.get (t:=17) (v:=ptrV xb) fun f=>rfl]
      exact @VRel.ptr T φ 3 0 xb.1 xb.2.1 xb.2.2 h3
    · refine ⟨(by decide:127<4096),?_⟩
      show @VRel T φ (.agg [.int .i64 2,.opq 12,.str []]) (a9.tmps.getD 127 undef)
      rw[ha9.get (t:=127) (v:=.agg #[.int .i64 2,.int .i64 lo,.string ByteArray.empty]) fun f=>rfl]
      refine @VRel.agg T φ _ _ (@zAa.cons T _ _ _ _ _ (@VRel.int T _ .i64 2) (@zAa.cons T _ _ _ _ _ (by
       have e:T.val 12=.int .i64 lo:=t12
       rw[← e]; exact @VRel.opq T _ 12) (@zAa.cons T _ _ _ _ _ str0X (@zAa.nil T _)))) (fun v hv=>?_)
      simp only[List.mem_cons,List.not_mem_nil,or_false] at hv
      rcases hv with rfl|rfl|rfl<;>rfl
    · refine ⟨(by decide:129<4096),?_⟩
      show @VRel T φ (.opq 13) (a9.tmps.getD 129 undef)
      rw[ha9.get (t:=129) (v:=.int .i64 hi) fun f=>rfl,← t13]
      exact @VRel.opq T φ 13
  · have hg:=(ogo_new (own:=own1) 3 0 hl7).trans hg10
    exact fin a10 w10 eqv _ ha10 hx10 he10 hg heo10
 |3,_=>
  refine wp_seq (vreg (nt:=233) zAh s26 ((103,.int .u8 ((3:Nat):Int))::(109,.bool false)::(17,ptrV xb)::LL al n c1 bl n2 c2 lo hi what sp sv) (fun g=>by kernel_rfl) (fun g=>by kernel_rfl) ha3 fun a4 ha4=>?_)
  refine zCj (ha4.ev (v:=.bool false) fun f=>rfl) (fun h=>by cases h) (fun _=>?_)
  refine wp_seq (vreg (nt:=233) zAh s28 ((103,.int .u8 ((3:Nat):Int))::(116,.bool false)::(17,ptrV xb)::LL al n c1 bl n2 c2 lo hi what sp sv) (fun g=>by kernel_rfl) (fun g=>by kernel_rfl) ha4 fun a4 ha4=>?_)
  refine zCj (ha4.ev (v:=.bool false) fun f=>rfl) (fun h=>by cases h) (fun _=>?_)
  refine wp_seq (vreg (nt:=233) zAh s30 ((123,.bool false)::(17,ptrV xb)::LL al n c1 bl n2 c2 lo hi what sp sv) (fun g=>by kernel_rfl) (fun g=>by kernel_rfl) ha4 fun a4 ha4=>?_)
  refine zCj (ha4.ev (v:=.bool false) fun f=>rfl) (fun h=>by cases h) (fun _=>?_)
  refine ZAg s25 (ZAj (nt:=233) zAh 0 1 [1,2,3,4,5] ((104,.int .i8 lo)::(17,ptrV xb)::LL al n c1 bl n2 c2 lo hi what sp sv) (by kernel_rfl) (fun g=>by kernel_rfl) (fun g=>by kernel_rfl) ha4 fun a5 ha5=>?_)
  refine ZBc (nt:=233) l25_1 ((105,.int .i64 lo)::(17,ptrV xb)::LL al n c1 bl n2 c2 lo hi what sp sv) ha5 (by decide) (fun g=>by kernel_rfl) (fun o ho=>run_cvI ho hlo (ha5.get (t:=104) fun f=>rfl)) (fun g=>by kernel_rfl) fun a6 ha6=>?_
  refine box_run (n:=4) hgs1 i2 hown1 (v:=⟨3,lo,hi⟩) (show 3<4 by decide) bx_25 t25 g25 l25 ha6 (fun T φ h3 t12 t13 p hp=>?_) ((17,ptrV xb)::LL al n c1 bl n2 c2 lo hi what sp sv) (by kernel_rfl) (fun g=>by kernel_rfl) fun a7 w7 eqv ha7 hx7 he7 hg7 heo7=>fin a7 w7 eqv _ ha7 hx7 he7 hg7 heo7
  simp only[List.mem_cons,List.not_mem_nil,or_false] at hp
  rcases hp with rfl|rfl
  · refine ⟨(by decide:17<4096),?_⟩
    show @VRel T φ (.ptr 3 0) (a6.tmps.getD 17 undef)
    rw[ha6.get (t:=17) (v:=ptrV xb) fun f=>rfl]
    exact @VRel.ptr T φ 3 0 xb.1 xb.2.1 xb.2.2 h3
  · refine ⟨(by decide:105<4096),?_⟩
    show @VRel T φ (.opq 12) (a6.tmps.getD 105 undef)
    rw[ha6.get (t:=105) (v:=.int .i64 lo) fun f=>rfl,← t12]
    exact @VRel.opq T φ 12
end
end Go.AM
namespace Go.AM
open Go.Proofs
def o32a:List Oper:=zBl 1 (ZAe 1 OL32.toList)
def way32R:Bool:=match zCg TZ 233 K0 OL32 o32a [(17,.ptr 3 0)] [137] (zAe 2 0 .none [.cells true (oqs 10 0)]) with
 | .ok (.tuple [x]) _=>aeqN 3 x (.agg (oqs 10 0))
 |_=>false
theorem way32_run:way32R=true:=by kernel_rfl
theorem o32a_t:(OL32.toList.drop 1).take o32a.length=o32a:=by kernel_rfl
theorem o32a_g:o32a.all (ZBo TZ.globals.size)=true:=by kernel_rfl
theorem o32a_l:o32a.length=1:=by kernel_rfl
theorem l32_2:CallG OL32 2 138 19 [.tmp 136,.const (.int .i64 0),.tmp 137] none:=callG (by kernel_rfl) (by kernel_rfl) (by kernel_rfl) (by kernel_rfl)
attribute [local irreducible] OL32 o32a in
theorem way32 {w:World} (hgs:2≤w.heap.size) {xw:Img} {v:WayV} {eqv:Value} (he:eqv.oneCell'=true) (hc:zAi (zAk w) xw (v.cells eqv)) {a:Act} {L:List (Nat×Value)} (ha:zAr 233 L a) (h17:∀ g,setL L g 17=ptrV xw) (hk:(L.all fun p=>keptR o32a p.1)=true) (hsub:∀ g,(L.map fun p=>setL L g p.1)=L.map Prod.snd) {Q:Exit→Act→World→Prop}
 (hn:∀ a' w',ZAb w w'→zAr 233 L a'→a'.tmps.getD 137 undef=.agg (v.cells eqv).toArray→wpOps TZ OL32 Q [2,3,4,5,6,7] a' w'):wpOps TZ OL32 Q [1,2,3,4,5,6,7] a w:=by
 have hl:(v.cells eqv).length=10:=by
  unfold WayV.cells
  split<;>split<;>rfl
 have hcell:∀ u,u∈v.cells eqv→u.oneCell'=true:=fun u hu=>wayV_cell he hu
 let T:Tok:=tokH noH (fun j=>((v.cells eqv)[j]?).getD nilS) (fun j=>by
  cases hj:(v.cells eqv)[j]? with
  |none=>rfl
  |some u=>exact hcell u (List.mem_of_getElem? hj))
 have hval:∀ j u,(v.cells eqv)[j]? = some u→T.val (0+j)=u:=fun j u hj=>by
  show ((v.cells eqv)[0+j]?).getD nilS=u
  rw[Nat.zero_add,hj]; rfl
 have hr:=ro1 (T:=T) (fun _=>rfl) hgs (cs:=oqs 10 0) hc (fun φ _=>by
  have:=ZCx (T:=T) (φ:=φ) (v.cells eqv) 0 hval
  rwa [hl] at this) (fun v hv=>zBp (zCf hv))
 have hrun:=way32_run
 unfold way32R at hrun
 split at hrun
 rotate_left
 · cases hrun
 rename_i x mf hq
 have hx:=@ZAf tok0 3 _ _ hrun
 subst hx
 have hrange:[1,2,3,4,5,6,7]=List.range' 1 o32a.length++[2,3,4,5,6,7]:=by rw[o32a_l]; rfl
 rw[hrange]
 refine vam (T:=T) (@ZBt T) 1 o32a o32a_t o32a_g hq hr (by decide) ha (fun p hp=>?_) L hk hsub fun φ' a' w' hst ha' hv=>?_
 · rw[List.mem_singleton] at hp
   subst hp
   refine ⟨(by decide:17<4096),?_⟩
   show @VRel T _ (.ptr 3 0) (a.tmps.getD 17 undef)
   rw[ha.get h17]
   exact @VRel.ptr T _ 3 0 xw.1 xw.2.1 xw.2.2 rfl
 · refine hn a' w' (ZAb.of hst ro1_wr) ha' ?_
   have h128:=ZAr hv (i:=0) (t:=137) rfl rfl
   generalize a'.tmps.getD 137 undef=c at h128
   cases h128 with
   |agg _ cs hcs hcc=>
   have:=oqs_un (T:=T) (vs:=v.cells eqv) hl hval hcs
   rw[← this]
structure EndW (w0:World) (v:WayV) (lv:List Bool) (R:List RowW) (sv rv eqv:Value) (xb:Img) (w:World):Prop where
 g0:G0 w0
 old:∀ b,b<w0.heap.size→w.heap[b]? = w0.heap[b]?
 size:w0.heap.size≤w.heap.size
 rest:w.os=w0.os∧w.output=w0.output∧w.tape=w0.tape
 marks:∃ own,ZBq own w sv lv
 box:zAi (zAk w) xb (v.cells eqv)
 eq:EqAt (zAk w) v eqv
 res:RowsRes R w rv
section
variable {w0 w w':World} {v:WayV} {lv:List Bool} {R:List RowW} {sv rv eqv:Value} {xb:Img}
theorem cell_left {w w':World} (hl:ZAb w w') {ad:Addr} {v:Value} (h:w.cell? ad=some v):w'.cell? ad=some v:=by
 have hb:ad.block<w.heap.size:=by
  rcases Nat.lt_or_ge ad.block w.heap.size with h1|h1
  · exact h1
  · unfold World.cell? at h
    rw[Array.getElem?_eq_none h1] at h
    simp at h
 rw[← h]
 unfold World.cell?
 rw[hl.1 _ hb]
theorem EqAt.go {v:WayV} {eqv:Value} (h:EqAt (zAk w) v eqv) (hl:ZAb w w'):EqAt (zAk w') v eqv:=by
 rcases h with h|⟨h1,x,h2,h3,h4⟩
 · exact .inl h
 · exact .inr ⟨h1,x,h2,h3,h4.at_ (hl.1 _ (h4.lt fun b o h=>h))⟩
theorem RowsRes.go {R:List RowW} {rv:Value} (h:RowsRes R w rv) (hl:ZAb w w'):RowsRes R w' rv:=by
 rcases h with h|⟨xo,cap,h1,h2,h3⟩
 · exact .inl h
 · refine .inr ⟨xo,cap,h1,h2,fun j r hj=>?_⟩
   obtain ⟨c1,vv,c2,c3⟩:=h3 j r hj
   exact ⟨cell_left hl c1,vv,cell_left hl c2,c3.go hl⟩
theorem EndW.go (h:EndW w0 v lv R sv rv eqv xb w) (hl:ZAb w w'):EndW w0 v lv R sv rv eqv xb w' where
 g0:=h.g0
 old:=fun b hb=>(hl.1 b (Nat.lt_of_lt_of_le hb h.size)).trans (h.old b hb)
 size:=Nat.le_trans h.size hl.2.1
 rest:=⟨hl.2.2.1.trans h.rest.1,hl.2.2.2.1.trans h.rest.2.1,hl.2.2.2.2.trans h.rest.2.2⟩
 marks:=by
  obtain ⟨own,hB⟩:=h.marks
  exact ⟨_,hB.move (ogo_new 1 0 hl) (by decide)⟩
 box:=h.box.at_ (hl.1 _ (h.box.lt fun b o h=>h))
 eq:=h.eq.go hl
 res:=h.res.go hl
theorem EndW.gs (h:EndW w0 v lv R sv rv eqv xb w):2≤w.heap.size:=Nat.le_trans h.g0.1 h.size
theorem EndW.cell (h:EndW w0 v lv R sv rv eqv xb w) {b:Option Addr} {n:Nat} {f:Nat→Value} (hI:InAt w0 b n f) {i:Nat} (hi:i<n):∃ ad,b=some ad∧w.cell? (ad.add i)=some (f i):=by
 obtain ⟨ad,h1,h2,h3⟩:=hI i hi
 refine ⟨ad,h1,?_⟩
 rw[← h3]
 unfold World.cell?
 rw[h.old _ h2]
end
section
variable {w0:World} {al bl:Option Addr} {n c1 n2 c2 what:Nat} {lo hi:Int} {A B:Nat→Nat} {sp:Value}
@[reducible] def LC (al:Option Addr) (n c1:Nat) (bl:Option Addr) (n2 c2:Nat) (lo hi:Int) (what:Nat) (sp sv:Value) (xb:Img) (rv:Value) (t i:Nat):List (Nat×Value):=
 (17,ptrV xb)::(18,rv)::(20,.int .i64 (t:Int))::(21,.int .i64 (i:Int))::LL al n c1 bl n2 c2 lo hi what sp sv
attribute [local irreducible] OL32 OL33 OL35 OL36 CL34 LB3 OL44 in
theorem rows32 {rows:List RowW} {next:Nat} {own:Nat→Nat} {w:World} {sv:Value} {lv:List Bool} (hlo:-128≤lo∧lo<128) (hW:LawW w0 rows next sp own w) (hB:ZBq own w sv lv) {xb:Img} {eqv:Value} (hxo:own xb.1=3) (hxb:WRow w xb (WayV.cells ⟨what % 4,lo,hi⟩ eqv)) (he:EqAt (zAk w) ⟨what % 4,lo,hi⟩ eqv) (heo:∀ x:Img,eqv=.slice (some ⟨x.1,x.2.1,none⟩) 1 1→own x.1=0)
 {a:Act} (ha:zAr 233 ((17,ptrV xb)::LL al n c1 bl n2 c2 lo hi what sp sv) a) {Q:Exit→Act→World→Prop}
 (hn:∀ a' w' rv,zAr 233 (LC al n c1 bl n2 c2 lo hi what sp sv xb rv 0 0) a'→EndW w0 ⟨what % 4,lo,hi⟩ lv (rows.filter fun r=>ZBn ⟨what % 4,lo,hi⟩ (numZ r.a)) sv rv eqv xb w'→(Code.block 5 (.loop LB3)).wp TZ (Exit.then ((Code.seq (.region 44 OL44 false) .ret).wp TZ Q) Q) a' w'):X32.wp TZ Q a w:=by
 obtain ⟨s23,s24,s26,s27,s28,s29,s30,s31,s25,s32⟩:=sL3
 obtain ⟨s33,s35,s36,_⟩:=sL4
 have hm4:what % 4<4:=Nat.mod_lt _ (by decide)
 have hecell:eqv.oneCell'=true:=by
  rcases he with ⟨_,h⟩|⟨_,x,h,_⟩<;>rw[h]<;>rfl
 rw[x32_is]
 refine wp_seq (ZAg s32 (ZAj (nt:=233) zAh 0 1 [1,2,3,4,5,6,7] ((136,sp)::(17,ptrV xb)::LL al n c1 bl n2 c2 lo hi what sp sv) (by kernel_rfl) (fun g=>by kernel_rfl) (fun g=>by kernel_rfl) ha fun a1 ha1=>?_))
 refine way32 hW.gs hecell hxb.cells ha1 (fun g=>rfl) (by kernel_rfl) (fun g=>by kernel_rfl) fun a2 w2 hl2 ha2 h137=>?_
 have hW2:=hW.new hl2
 have hB2:=hB.move (ogo_new 1 0 hl2) (by decide)
 have hxlt:=hxb.lt
 have hxo2:extO own w 0 xb.1=3:=by rw[extO_lt hxlt]; exact hxo
 have he2:=he.go hl2
 have heo2:∀ x:Img,eqv=.slice (some ⟨x.1,x.2.1,none⟩) 1 1→extO own w 0 x.1=0:=fun x h=>by
  have:=heo x h
  rcases Nat.lt_or_ge x.1 w.heap.size with hb|hb
  · rw[extO_lt hb]; exact this
  · exact extO_ge hb
 have hxb2:=hxb.at_ (hl2.1 _ hxlt)
 generalize extO own w 0=own2 at hW2 hB2 hxo2 heo2
 obtain ⟨hok,hS⟩:=hW2.st
 have hnz:numZ (lo+128).toNat=lo:=by
  unfold numZ
  rw[Int.subNatNat_eq_coe]
  omega
 refine vcall l32_2 (fun c=>(138,c)::(17,ptrV xb)::LL al n c1 bl n2 c2 lo hi what sp sv) (ha2.add h137) (by decide) (fun g=>by kernel_rfl) (args:=[sp,.int .i64 0,.agg (WayV.cells ⟨what % 4,lo,hi⟩ eqv).toArray]) (fun g=>by kernel_rfl)
  (rows_ok hS (by decide) hW2.z (v:=⟨what % 4,lo,hi⟩) hm4 (i:=(lo+128).toNat) (by omega) (fun _=>hnz.symm) he2 heo2) (fun c g=>by kernel_rfl) fun c3 a3 w3 hR3 ha3=>?_
 obtain ⟨rv,rfl,hl3,hres⟩:=hR3
 refine ZAj (nt:=233) zAh 3 5 [] ((18,rv)::(19,.nilIface)::(17,ptrV xb)::LL al n c1 bl n2 c2 lo hi what sp sv) (by kernel_rfl) (fun g=>by kernel_rfl) (fun g=>by kernel_rfl) ha3 fun a4 ha4=>?_
 unfold wpOps
 refine wp_seq (wp_seq (vreg (nt:=233) zAh s33 ((142,.bool false)::(18,rv)::(17,ptrV xb)::LL al n c1 bl n2 c2 lo hi what sp sv) (fun g=>by kernel_rfl) (fun g=>by kernel_rfl) ha4 fun a5 ha5=>?_))
 refine zCj (ha5.ev (v:=.bool false) fun f=>rfl) (fun h=>by cases h) (fun _=>Go.wp_skip ?_)
 refine wp_seq (vreg (nt:=233) zAh s35 ((20,.int .i64 ((0:Nat):Int))::(18,rv)::(17,ptrV xb)::LL al n c1 bl n2 c2 lo hi what sp sv) (fun g=>by kernel_rfl) (fun g=>by kernel_rfl) ha5 fun a6 ha6=>?_)
 have hO:∀ {b:Nat},b<w2.heap.size→own2 b≠1→w3.heap[b]? = w2.heap[b]?:=fun {b} hb hne=>hl3.1 b hb hne
 have hC:EndW w0 ⟨what % 4,lo,hi⟩ lv (rows.filter fun r=>ZBn ⟨what % 4,lo,hi⟩ (numZ r.a)) sv rv eqv xb w3:={
  g0:=hW2.g0
  old:=fun b hb=>by
   obtain ⟨h1,h2⟩:=hW2.old b hb
   exact (hO (Nat.lt_of_lt_of_le hb hW2.size) (by rw[h2]; decide)).trans h1
  size:=Nat.le_trans hW2.size hl3.2.1
  rest:=⟨hl3.2.2.1.trans hW2.rest.1,hl3.2.2.2.1.trans hW2.rest.2.1,hl3.2.2.2.2.trans hW2.rest.2.2⟩
  marks:=⟨own2,by
   rcases hB2 with h|⟨xl,cap,q1,q2,q3,q4,q5,q6⟩
   · exact .inl h
   · exact .inr ⟨xl,cap,q1,q2,q3,q4,q5.at_ (hO q5.lt (by rw[q6]; decide)),q6⟩⟩
  box:=hxb2.cells.at_ (hO hxb2.lt (by rw[hxo2]; decide))
  eq:=by
   rcases he2 with h|⟨h1,x,h2,h3,h4⟩
   · exact .inl h
   · exact .inr ⟨h1,x,h2,h3,h4.at_ (hO (h4.lt fun b o h=>h) (by rw[heo2 x h2]; decide))⟩
  res:=hres }
 refine wp_seq (wp_seq (vreg (nt:=233) zAh s36 (LC al n c1 bl n2 c2 lo hi what sp sv xb rv 0 0) (fun g=>by kernel_rfl) (fun g=>by kernel_rfl) ha6 fun a7 ha7=>?_))
 exact hn a7 w3 rv ha7 hC
end
end Go.AM
namespace Go.AM
open Go.Proofs
theorem l39_2:OpG OL39 2 151 (.indexAddr 72 (.tmp 149) (.tmp 150)) none:=opG (by kernel_rfl) (by kernel_rfl) (by kernel_rfl) (by kernel_rfl)
theorem l39_3:OpG OL39 3 152 (.load 4 (.tmp 151)) none:=opG (by kernel_rfl) (by kernel_rfl) (by kernel_rfl) (by kernel_rfl)
theorem l39_5:OpG OL39 5 154 (.fieldAddr 74 (.tmp 17) 4) (some (4,true)):=opG (by kernel_rfl) (by kernel_rfl) (by kernel_rfl) (by kernel_rfl)
theorem l39_6:OpG OL39 6 155 (.load 4 (.tmp 154)) (some (4,true)):=opG (by kernel_rfl) (by kernel_rfl) (by kernel_rfl) (by kernel_rfl)
theorem l39_11:OpG OL39 11 160 (.indexAddr 70 (.tmp 158) (.tmp 159)) (some (8,false)):=opG (by kernel_rfl) (by kernel_rfl) (by kernel_rfl) (by kernel_rfl)
theorem l39_12:OpG OL39 12 161 (.load 71 (.tmp 160)) (some (8,false)):=opG (by kernel_rfl) (by kernel_rfl) (by kernel_rfl) (by kernel_rfl)
theorem l39_18:OpG OL39 18 167 (.fieldAddr 74 (.tmp 17) 5) (some (17,true)):=opG (by kernel_rfl) (by kernel_rfl) (by kernel_rfl) (by kernel_rfl)
theorem l39_19:OpG OL39 19 168 (.load 4 (.tmp 167)) (some (17,true)):=opG (by kernel_rfl) (by kernel_rfl) (by kernel_rfl) (by kernel_rfl)
theorem l39_24:OpG OL39 24 173 (.indexAddr 70 (.tmp 171) (.tmp 172)) (some (21,false)):=opG (by kernel_rfl) (by kernel_rfl) (by kernel_rfl) (by kernel_rfl)
theorem l39_25:OpG OL39 25 174 (.load 71 (.tmp 173)) (some (21,false)):=opG (by kernel_rfl) (by kernel_rfl) (by kernel_rfl) (by kernel_rfl)
theorem l39_31:OpG OL39 31 180 (.fieldAddr 74 (.tmp 17) 1) (some (30,true)):=opG (by kernel_rfl) (by kernel_rfl) (by kernel_rfl) (by kernel_rfl)
theorem l39_32:OpG OL39 32 181 (.load 49 (.tmp 180)) (some (30,true)):=opG (by kernel_rfl) (by kernel_rfl) (by kernel_rfl) (by kernel_rfl)
theorem l39_38:OpG OL39 38 187 (.indexAddr 70 (.tmp 185) (.tmp 186)) (some (35,false)):=opG (by kernel_rfl) (by kernel_rfl) (by kernel_rfl) (by kernel_rfl)
theorem l39_39:OpG OL39 39 188 (.load 71 (.tmp 187)) (some (35,false)):=opG (by kernel_rfl) (by kernel_rfl) (by kernel_rfl) (by kernel_rfl)
theorem fld74_1:fldB 74 1 1=true:=by kernel_rfl
theorem fld74_4:fldB 74 4 8=true:=by kernel_rfl
theorem fld74_5:fldB 74 5 9=true:=by kernel_rfl
def hasLo (md:Nat):Bool:=decide (md=0∨md=2)
def hasHi (md:Nat):Bool:=decide (md=1∨md=2)
theorem way_cells {w:World} {xb:Img} {v:WayV} {eqv:Value} (h:zAi (zAk w) xb (v.cells eqv)):w.cell? ⟨xb.1,xb.2.1+1,none⟩=some eqv∧w.cell? ⟨xb.1,xb.2.1+8,none⟩=some (.bool (hasLo v.md))∧w.cell? ⟨xb.1,xb.2.1+9,none⟩=some (.bool (hasHi v.md)):=by
 have g:∀ {j:Nat} {u:Value},(v.cells eqv)[j]? = some u→w.cell? ⟨xb.1,xb.2.1+j,none⟩=some u:=fun {j u} hj=>cell_of (H:=zAk w) (w:=w) (fun b o h=>h) h hj
 refine ⟨g ?_,g ?_,g ?_⟩
 · unfold WayV.cells
   split<;>split<;>rfl
 · unfold WayV.cells hasLo
   split<;>split<;>rfl
 · unfold WayV.cells hasHi
   split<;>split<;>rfl
section
variable {al bl:Option Addr} {n c1 n2 c2 what:Nat} {lo hi:Int} {sp sv rv eqv:Value} {xb:Img} {t i:Nat} {w:World}
attribute [local irreducible] OL39
theorem stage3 {v:WayV} {z:Int} (hcell:∀ ad,al=some ad→w.cell? (ad.add i)=some (.int .i8 z)) (hal:i<n→∃ ad,al=some ad) (hin:i<n) (hbx:w.cell? ⟨xb.1,xb.2.1+1,none⟩=some eqv) (he:EqAt (zAk w) v eqv) {g:Bool} {a:Act} (ha:zAr 233 ((178,.bool g)::LC al n c1 bl n2 c2 lo hi what sp sv xb rv t i) a) {Q:Exit→Act→World→Prop}
 (hn:∀ a',zAr 233 ((22,.bool (g&&(decide (v.md≠3)||(z == lo))))::LC al n c1 bl n2 c2 lo hi what sp sv xb rv t i) a'→Q .normal a' w):wpOps TZ OL39 Q (List.range' 30 15) a w:=by
 rw[← List.append_nil (List.range' 30 15)]
 cases g with
 |false=>
  refine ZAj (nt:=233) zAh 30 15 [] ((22,.bool false)::LC al n c1 bl n2 c2 lo hi what sp sv xb rv t i) (by kernel_rfl) (fun g=>by kernel_rfl) (fun g=>by kernel_rfl) ha fun a1 ha1=>?_
  unfold wpOps
  exact hn a1 ha1
 |true=>
  show wpOps TZ OL39 Q [30,31,32,33,34,35,36,37,38,39,40,41,42,43,44] a w
  refine ZAj (nt:=233) zAh 30 1 [31,32,33,34,35,36,37,38,39,40,41,42,43,44] ((179,.bool true)::LC al n c1 bl n2 c2 lo hi what sp sv xb rv t i) (by kernel_rfl) (fun g=>by kernel_rfl) (fun g=>by kernel_rfl) ha fun a1 ha1=>?_
  refine ZBc (nt:=233) l39_31 ((180,.pointer (some ⟨xb.1,xb.2.1+1,none⟩))::(179,.bool true)::LC al n c1 bl n2 c2 lo hi what sp sv xb rv t i) ha1 (by decide) (fun g=>by kernel_rfl) (fun o ho=>run_fa fld74_1 ho (ha1.get (t:=17) fun f=>rfl)) (fun g=>by kernel_rfl) fun a2 ha2=>?_
  refine ZBc (nt:=233) l39_32 ((181,eqv)::(179,.bool true)::LC al n c1 bl n2 c2 lo hi what sp sv xb rv t i) ha2 (by decide) (fun g=>by kernel_rfl) (fun o ho=>zCy pl49 ho (ha2.get (t:=180) fun f=>rfl) hbx) (fun g=>by kernel_rfl) fun a3 ha3=>?_
  rcases he with ⟨h1,rfl⟩|⟨h1,x,rfl,_⟩
  · refine ZAj (nt:=233) zAh 33 12 [] ((22,.bool true)::LC al n c1 bl n2 c2 lo hi what sp sv xb rv t i) (by kernel_rfl) (fun g=>by kernel_rfl) (fun g=>by kernel_rfl) ha3 fun a4 ha4=>?_
    unfold wpOps
    have hd:decide (v.md≠3)=true:=decide_eq_true h1
    rw[hd] at hn
    exact hn a4 ha4
  · obtain ⟨ad,rfl⟩:=hal hin
    refine ZAj (nt:=233) zAh 33 5 [38,39,40,41,42,43,44] ((179,.bool true)::(184,.bool false)::(185,.slice (some ad) n c1)::(186,.int .i64 (i:Int))::LC (some ad) n c1 bl n2 c2 lo hi what sp sv xb rv t i) (by kernel_rfl) (fun g=>by kernel_rfl) (fun g=>by kernel_rfl) ha3 fun a4 ha4=>?_
    refine ZBc (nt:=233) l39_38 ((187,.pointer (some (ad.add i)))::(179,.bool true)::(184,.bool false)::LC (some ad) n c1 bl n2 c2 lo hi what sp sv xb rv t i) ha4 (by decide) (fun g=>by kernel_rfl) (fun o ho=>run_ix tz_u70 siz71 ho hin (ha4.get (t:=185) fun f=>rfl) (ha4.get (t:=186) fun f=>rfl)) (fun g=>by kernel_rfl) fun a5 ha5=>?_
    refine ZBc (nt:=233) l39_39 ((188,.int .i8 z)::(179,.bool true)::(184,.bool false)::LC (some ad) n c1 bl n2 c2 lo hi what sp sv xb rv t i) ha5 (by decide) (fun g=>by kernel_rfl) (fun o ho=>zCy pl71 ho (ha5.get (t:=187) fun f=>rfl) (hcell ad rfl)) (fun g=>by kernel_rfl) fun a6 ha6=>?_
    refine ZAj (nt:=233) zAh 40 5 [] ((22,.bool (z == lo))::LC (some ad) n c1 bl n2 c2 lo hi what sp sv xb rv t i) (by kernel_rfl) (fun g=>by kernel_rfl) (fun g=>by kernel_rfl) ha6 fun a7 ha7=>?_
    unfold wpOps
    have hd:decide (v.md≠3)=false:=decide_eq_false (fun h=>h h1)
    rw[hd] at hn
    exact hn a7 ha7
theorem stage2 {v:WayV} {z:Int} (hcell:∀ ad,al=some ad→w.cell? (ad.add i)=some (.int .i8 z)) (hal:i<n→∃ ad,al=some ad) (hin:i<n) (hbx:zAi (zAk w) xb (v.cells eqv)) (he:EqAt (zAk w) v eqv) {g:Bool} {a:Act} (ha:zAr 233 ((165,.bool g)::LC al n c1 bl n2 c2 lo hi what sp sv xb rv t i) a) {Q:Exit→Act→World→Prop}
 (hn:∀ a',zAr 233 ((22,.bool (g&&(!(hasHi v.md)||decide (z≤hi))&&(decide (v.md≠3)||(z == lo))))::LC al n c1 bl n2 c2 lo hi what sp sv xb rv t i) a'→Q .normal a' w):wpOps TZ OL39 Q (List.range' 17 28) a w:=by
 obtain ⟨b1,b2,b3⟩:=way_cells hbx
 have e:List.range' 17 28=List.range' 17 13++List.range' 30 15:=rfl
 rw[e]
 cases g with
 |false=>
  refine ZAj (nt:=233) zAh 17 13 (List.range' 30 15) ((178,.bool false)::LC al n c1 bl n2 c2 lo hi what sp sv xb rv t i) (by kernel_rfl) (fun g=>by kernel_rfl) (fun g=>by kernel_rfl) ha fun a1 ha1=>?_
  exact stage3 hcell hal hin b1 he ha1 hn
 |true=>
  show wpOps TZ OL39 Q (17::18::19::(List.range' 20 10++List.range' 30 15)) a w
  refine ZAj (nt:=233) zAh 17 1 (18::19::(List.range' 20 10++List.range' 30 15)) ((166,.bool true)::LC al n c1 bl n2 c2 lo hi what sp sv xb rv t i) (by kernel_rfl) (fun g=>by kernel_rfl) (fun g=>by kernel_rfl) ha fun a1 ha1=>?_
  refine ZBc (nt:=233) l39_18 ((167,.pointer (some ⟨xb.1,xb.2.1+9,none⟩))::(166,.bool true)::LC al n c1 bl n2 c2 lo hi what sp sv xb rv t i) ha1 (by decide) (fun g=>by kernel_rfl) (fun o ho=>run_fa fld74_5 ho (ha1.get (t:=17) fun f=>rfl)) (fun g=>by kernel_rfl) fun a2 ha2=>?_
  refine ZBc (nt:=233) l39_19 ((168,.bool (hasHi v.md))::(166,.bool true)::LC al n c1 bl n2 c2 lo hi what sp sv xb rv t i) ha2 (by decide) (fun g=>by kernel_rfl) (fun o ho=>zCy pl4 ho (ha2.get (t:=167) fun f=>rfl) b3) (fun g=>by kernel_rfl) fun a3 ha3=>?_
  cases hh:hasHi v.md with
  |false=>
   rw[hh] at ha3 hn
   refine ZAj (nt:=233) zAh 20 10 (List.range' 30 15) ((178,.bool true)::LC al n c1 bl n2 c2 lo hi what sp sv xb rv t i) (by kernel_rfl) (fun g=>by kernel_rfl) (fun g=>by kernel_rfl) ha3 fun a4 ha4=>?_
   exact stage3 hcell hal hin b1 he ha4 hn
  |true=>
   rw[hh] at ha3 hn
   obtain ⟨ad,rfl⟩:=hal hin
   show wpOps TZ OL39 Q (20::21::22::23::24::25::26::27::28::29::List.range' 30 15) a3 w
   refine ZAj (nt:=233) zAh 20 4 (24::25::26::27::28::29::List.range' 30 15) ((166,.bool true)::(170,.bool false)::(171,.slice (some ad) n c1)::(172,.int .i64 (i:Int))::LC (some ad) n c1 bl n2 c2 lo hi what sp sv xb rv t i) (by kernel_rfl) (fun g=>by kernel_rfl) (fun g=>by kernel_rfl) ha3 fun a4 ha4=>?_
   refine ZBc (nt:=233) l39_24 ((173,.pointer (some (ad.add i)))::(166,.bool true)::(170,.bool false)::LC (some ad) n c1 bl n2 c2 lo hi what sp sv xb rv t i) ha4 (by decide) (fun g=>by kernel_rfl) (fun o ho=>run_ix tz_u70 siz71 ho hin (ha4.get (t:=171) fun f=>rfl) (ha4.get (t:=172) fun f=>rfl)) (fun g=>by kernel_rfl) fun a5 ha5=>?_
   refine ZBc (nt:=233) l39_25 ((174,.int .i8 z)::(166,.bool true)::(170,.bool false)::LC (some ad) n c1 bl n2 c2 lo hi what sp sv xb rv t i) ha5 (by decide) (fun g=>by kernel_rfl) (fun o ho=>zCy pl71 ho (ha5.get (t:=173) fun f=>rfl) (hcell ad rfl)) (fun g=>by kernel_rfl) fun a6 ha6=>?_
   refine ZAj (nt:=233) zAh 26 4 (List.range' 30 15) ((178,.bool (decide (z≤hi)))::LC (some ad) n c1 bl n2 c2 lo hi what sp sv xb rv t i) (by kernel_rfl) (fun g=>by kernel_rfl) (fun g=>by kernel_rfl) ha6 fun a7 ha7=>?_
   exact stage3 hcell hal hin b1 he ha7 hn
theorem pick39 {v:WayV} {z:Int} {b:Bool} (hcell:∀ ad,al=some ad→w.cell? (ad.add i)=some (.int .i8 z)) (hal:i<n→∃ ad,al=some ad) (hin:i<n) (hbx:zAi (zAk w) xb (v.cells eqv)) (he:EqAt (zAk w) v eqv) {own:Nat→Nat} {lv:List Bool} (hB:ZBq own w sv lv) (hb:lv[i]? = some b) {a:Act} (ha:zAr 233 (LC al n c1 bl n2 c2 lo hi what sp sv xb rv t i) a) {Q:Exit→Act→World→Prop}
 (hn:∀ a',zAr 233 ((22,.bool (b&&(!(hasLo v.md)||decide (lo≤z))&&(!(hasHi v.md)||decide (z≤hi))&&(decide (v.md≠3)||(z == lo))))::LC al n c1 bl n2 c2 lo hi what sp sv xb rv t i) a'→Q .normal a' w):(Code.region 39 OL39 false).wp TZ Q a w:=by
 obtain ⟨s33,s35,s36,s37,s38,s39,_⟩:=sL4
 obtain ⟨b1,b2,b3⟩:=way_cells hbx
 obtain ⟨adl,cap,rfl,hcl,_⟩:=hB.cell hb
 have hil:=zAf hb
 refine ZAg s39 ?_
 show wpOps TZ OL39 Q (0::1::2::3::4::(List.range' 5 12++List.range' 17 28)) a w
 refine ZAj (nt:=233) zAh 0 2 (2::3::4::(List.range' 5 12++List.range' 17 28)) ((149,.slice (some adl) lv.length cap)::(150,.int .i64 (i:Int))::LC al n c1 bl n2 c2 lo hi what sp (.slice (some adl) lv.length cap) xb rv t i) (by kernel_rfl) (fun g=>by kernel_rfl) (fun g=>by kernel_rfl) ha fun a1 ha1=>?_
 refine ZBc (nt:=233) l39_2 ((151,.pointer (some (adl.add (i*1))))::LC al n c1 bl n2 c2 lo hi what sp (.slice (some adl) lv.length cap) xb rv t i) ha1 (by decide) (fun g=>by kernel_rfl) (fun o ho=>run_ix2 tz_u72 siz4 ho hil (ha1.get (t:=149) fun f=>rfl) (ha1.get (t:=150) fun f=>rfl)) (fun g=>by kernel_rfl) fun a2 ha2=>?_
 refine ZBc (nt:=233) l39_3 ((152,.bool b)::LC al n c1 bl n2 c2 lo hi what sp (.slice (some adl) lv.length cap) xb rv t i) ha2 (by decide) (fun g=>by kernel_rfl) (fun o ho=>zCy pl4 ho (ha2.get (t:=151) fun f=>rfl) hcl) (fun g=>by kernel_rfl) fun a3 ha3=>?_
 cases b with
 |false=>
  show wpOps TZ OL39 Q (List.range' 4 13++List.range' 17 28) a3 w
  refine ZAj (nt:=233) zAh 4 13 (List.range' 17 28) ((165,.bool false)::LC al n c1 bl n2 c2 lo hi what sp (.slice (some adl) lv.length cap) xb rv t i) (by kernel_rfl) (fun g=>by kernel_rfl) (fun g=>by kernel_rfl) ha3 fun a4 ha4=>?_
  exact stage2 hcell hal hin hbx he ha4 hn
 |true=>
  show wpOps TZ OL39 Q (4::5::6::(List.range' 7 10++List.range' 17 28)) a3 w
  refine ZAj (nt:=233) zAh 4 1 (5::6::(List.range' 7 10++List.range' 17 28)) ((153,.bool true)::LC al n c1 bl n2 c2 lo hi what sp (.slice (some adl) lv.length cap) xb rv t i) (by kernel_rfl) (fun g=>by kernel_rfl) (fun g=>by kernel_rfl) ha3 fun a4 ha4=>?_
  refine ZBc (nt:=233) l39_5 ((154,.pointer (some ⟨xb.1,xb.2.1+8,none⟩))::(153,.bool true)::LC al n c1 bl n2 c2 lo hi what sp (.slice (some adl) lv.length cap) xb rv t i) ha4 (by decide) (fun g=>by kernel_rfl) (fun o ho=>run_fa fld74_4 ho (ha4.get (t:=17) fun f=>rfl)) (fun g=>by kernel_rfl) fun a5 ha5=>?_
  refine ZBc (nt:=233) l39_6 ((155,.bool (hasLo v.md))::(153,.bool true)::LC al n c1 bl n2 c2 lo hi what sp (.slice (some adl) lv.length cap) xb rv t i) ha5 (by decide) (fun g=>by kernel_rfl) (fun o ho=>zCy pl4 ho (ha5.get (t:=154) fun f=>rfl) b2) (fun g=>by kernel_rfl) fun a6 ha6=>?_
  cases hh:hasLo v.md with
  |false=>
   rw[hh] at ha6 hn
   refine ZAj (nt:=233) zAh 7 10 (List.range' 17 28) ((165,.bool true)::LC al n c1 bl n2 c2 lo hi what sp (.slice (some adl) lv.length cap) xb rv t i) (by kernel_rfl) (fun g=>by kernel_rfl) (fun g=>by kernel_rfl) ha6 fun a7 ha7=>?_
   exact stage2 hcell hal hin hbx he ha7 hn
  |true=>
   rw[hh] at ha6 hn
   obtain ⟨ad,rfl⟩:=hal hin
   show wpOps TZ OL39 Q (7::8::9::10::11::12::13::14::15::16::List.range' 17 28) a6 w
   refine ZAj (nt:=233) zAh 7 4 (11::12::13::14::15::16::List.range' 17 28) ((153,.bool true)::(157,.bool false)::(158,.slice (some ad) n c1)::(159,.int .i64 (i:Int))::LC (some ad) n c1 bl n2 c2 lo hi what sp (.slice (some adl) lv.length cap) xb rv t i) (by kernel_rfl) (fun g=>by kernel_rfl) (fun g=>by kernel_rfl) ha6 fun a7 ha7=>?_
   refine ZBc (nt:=233) l39_11 ((160,.pointer (some (ad.add i)))::(153,.bool true)::(157,.bool false)::LC (some ad) n c1 bl n2 c2 lo hi what sp (.slice (some adl) lv.length cap) xb rv t i) ha7 (by decide) (fun g=>by kernel_rfl) (fun o ho=>run_ix tz_u70 siz71 ho hin (ha7.get (t:=158) fun f=>rfl) (ha7.get (t:=159) fun f=>rfl)) (fun g=>by kernel_rfl) fun a8 ha8=>?_
   refine ZBc (nt:=233) l39_12 ((161,.int .i8 z)::(153,.bool true)::(157,.bool false)::LC (some ad) n c1 bl n2 c2 lo hi what sp (.slice (some adl) lv.length cap) xb rv t i) ha8 (by decide) (fun g=>by kernel_rfl) (fun o ho=>zCy pl71 ho (ha8.get (t:=160) fun f=>rfl) (hcell ad rfl)) (fun g=>by kernel_rfl) fun a9 ha9=>?_
   refine ZAj (nt:=233) zAh 13 4 (List.range' 17 28) ((165,.bool (decide (lo≤z)))::LC (some ad) n c1 bl n2 c2 lo hi what sp (.slice (some adl) lv.length cap) xb rv t i) (by kernel_rfl) (fun g=>by kernel_rfl) (fun g=>by kernel_rfl) ha9 fun a10 ha10=>?_
   exact stage2 hcell hal hin hbx he ha10 hn
end
end Go.AM
namespace Go.AM
open Go.Proofs
theorem rowsF_app (A:Nat→Nat):∀ (l l':List Bool) (i:Nat),ZAz A i (l++l')=ZAz A i l++ZAz A (i+l.length) l'
 | [],l',i=>rfl
 |b::l,l',i=>by
  have ih:=rowsF_app A l l' (i+1)
  have e:i+1+l.length=i+(b::l).length:=by rw[List.length_cons]; omega
  rw[e] at ih
  cases b
  · exact ih
  · show rowL A i::ZAz A (i+1) (l++l')=_
    rw[ih]; rfl
def cntR (A:Nat→Nat) (tb:RowW→Bool) (lv:List Bool) (i:Nat):Nat:=((ZAz A 0 (lv.take i)).filter tb).length
theorem take_snoc {lv:List Bool} {i:Nat} {b:Bool} (h:lv[i]? = some b):lv.take (i+1)=lv.take i++[b]:=by
 rw[List.take_add_one,h]; rfl
theorem rowsF_one (A:Nat→Nat) (i:Nat) (b:Bool):ZAz A i [b]=if b then [rowL A i] else []:=by
 cases b<;>rfl
theorem cnt_step {A:Nat→Nat} {tb:RowW→Bool} {lv:List Bool} {i:Nat} {b:Bool} (h:lv[i]? = some b):cntR A tb lv (i+1)=cntR A tb lv i+(if (b&&tb (rowL A i))=true then 1 else 0):=by
 unfold cntR
 have hi:=zAf h
 have hl:(lv.take i).length=i:=by rw[List.length_take]; omega
 rw[take_snoc h,rowsF_app,hl,Nat.zero_add,rowsF_one,List.filter_append,List.length_append]
 congr 1
 cases b with
 |false=>rfl
 |true=>
  simp only[if_true,Bool.true_and]
  rw[List.filter_cons]
  cases tb (rowL A i)<;>rfl
theorem cnt_get {A:Nat→Nat} {tb:RowW→Bool} {lv:List Bool} {i:Nat} (h:lv[i]? = some true) (ht:tb (rowL A i)=true):((ZAz A 0 lv).filter tb)[cntR A tb lv i]? = some (rowL A i):=by
 have hi:=zAf h
 have hl:(lv.take i).length=i:=by rw[List.length_take]; omega
 have e:lv=lv.take i++(true::lv.drop (i+1)):=by
  have hd:lv.drop i=lv[i]::lv.drop (i+1):=List.drop_eq_getElem_cons hi
  rw[List.getElem?_eq_getElem hi] at h
  have h':lv[i]=true:=Option.some.inj h
  rw[← h',← hd,List.take_append_drop]
 have e2:(ZAz A 0 lv).filter tb=(ZAz A 0 (lv.take i)).filter tb++rowL A i::(ZAz A (i+1) (lv.drop (i+1))).filter tb:=by
  rw[e,rowsF_app,← e,hl,Nat.zero_add,List.filter_append]
  congr 1
  show (rowL A i::ZAz A (i+1) (lv.drop (i+1))).filter tb=_
  rw[List.filter_cons,if_pos ht]
 rw[e2]
 unfold cntR
 rw[List.getElem?_append_right (Nat.le_refl _),Nat.sub_self]; rfl
theorem cnt_end {A:Nat→Nat} {tb:RowW→Bool} {lv:List Bool} {i:Nat} (h:lv.length≤i):cntR A tb lv i=((ZAz A 0 lv).filter tb).length:=by
 unfold cntR
 rw[List.take_of_length_le h]
theorem told_is {md:Nat} (hmd:md<4) {lo hi z:Int} {b:Bool}:(b&&(!(hasLo md)||decide (lo≤z))&&(!(hasHi md)||decide (z≤hi))&&(decide (md≠3)||(z == lo)))=(b&&ZBn ⟨md,lo,hi⟩ z):=by
 have e:(z == lo)=decide (z=lo):=by
  by_cases h:z=lo
  · rw[decide_eq_true h]; exact beq_iff_eq.2 h
  · rw[decide_eq_false h]; exact beq_eq_false_iff_ne.2 h
 rw[e]
 match md,hmd with
 |0,_=>cases b<;>simp[hasLo,hasHi,ZBn]
 |1,_=>cases b<;>simp[hasLo,hasHi,ZBn]
 |2,_=>cases b<;>simp[hasLo,hasHi,ZBn]
 |3,_=>cases b<;>simp[hasLo,hasHi,ZBn]
theorem add_is {b o k:Nat}:(⟨b,o,none⟩:Addr).add k=⟨b,o+k,none⟩:=by
 unfold Addr.add
 split
 · rename_i h
   subst h; rfl
 · rfl
theorem l41_7:OpG OL41 7 202 (.indexAddr 67 (.tmp 200) (.tmp 201)) (some (4,false)):=opG (by kernel_rfl) (by kernel_rfl) (by kernel_rfl) (by kernel_rfl)
theorem l41_8:OpG OL41 8 203 (.fieldAddr 69 (.tmp 202) 0) (some (4,false)):=opG (by kernel_rfl) (by kernel_rfl) (by kernel_rfl) (by kernel_rfl)
theorem l41_9:OpG OL41 9 204 (.load 59 (.tmp 203)) (some (4,false)):=opG (by kernel_rfl) (by kernel_rfl) (by kernel_rfl) (by kernel_rfl)
theorem l41_11:OpG OL41 11 206 (.binOp .add 3 (.tmp 205) (.const (.int .i64 1)) 3) (some (4,false)):=opG (by kernel_rfl) (by kernel_rfl) (by kernel_rfl) (by kernel_rfl)
theorem l41_12:OpG OL41 12 207 (.convert 3 59 (.tmp 206)) (some (4,false)):=opG (by kernel_rfl) (by kernel_rfl) (by kernel_rfl) (by kernel_rfl)
theorem l41_18:OpG OL41 18 213 (.indexAddr 67 (.tmp 211) (.tmp 212)) (some (15,false)):=opG (by kernel_rfl) (by kernel_rfl) (by kernel_rfl) (by kernel_rfl)
theorem l41_19:OpG OL41 19 214 (.fieldAddr 69 (.tmp 213) 1) (some (15,false)):=opG (by kernel_rfl) (by kernel_rfl) (by kernel_rfl) (by kernel_rfl)
theorem l41_20:OpG OL41 20 215 (.load 49 (.tmp 214)) (some (15,false)):=opG (by kernel_rfl) (by kernel_rfl) (by kernel_rfl) (by kernel_rfl)
theorem l41_23:OpG OL41 23 218 (.indexAddr 70 (.tmp 216) (.tmp 217)) (some (15,false)):=opG (by kernel_rfl) (by kernel_rfl) (by kernel_rfl) (by kernel_rfl)
theorem l41_24:OpG OL41 24 219 (.load 71 (.tmp 218)) (some (15,false)):=opG (by kernel_rfl) (by kernel_rfl) (by kernel_rfl) (by kernel_rfl)
theorem l41_25:OpG OL41 25 220 (.convert 71 2 (.tmp 219)) (some (15,false)):=opG (by kernel_rfl) (by kernel_rfl) (by kernel_rfl) (by kernel_rfl)
theorem l41_27:OpG OL41 27 222 (.binOp .rem 3 (.tmp 221) (.const (.int .i64 3)) 3) (some (15,false)):=opG (by kernel_rfl) (by kernel_rfl) (by kernel_rfl) (by kernel_rfl)
theorem l41_28:CallG OL41 28 223 16 [.tmp 220,.tmp 222] (some (15,false)):=callG (by kernel_rfl) (by kernel_rfl) (by kernel_rfl) (by kernel_rfl)
theorem l41_29:CallG OL41 29 224 20 [.tmp 215,.tmp 223] (some (15,false)):=callG (by kernel_rfl) (by kernel_rfl) (by kernel_rfl) (by kernel_rfl)
theorem ns41:Region.noSelect OL41=true:=by kernel_rfl
theorem ok41:((List.range 28).all fun i=>okH OL41 i 1)=true:=by kernel_rfl
theorem ok41_30:okH OL41 30 2=true:=by kernel_rfl
theorem rd41_28:Region.ready .any OL41 (LHf OL41 28)=[28]:=by kernel_rfl
theorem rd41_29:Region.ready .any OL41 (LHf OL41 29)=[29]:=by kernel_rfl
theorem dn41:Region.ready .any OL41 (LHf OL41 32)=[]:=by kernel_rfl
theorem ZBs {i n:Nat} (h:i+n≤28):okH OL41 i n=true:=by
 unfold okH
 refine List.all_eq_true.2 fun j hj=>?_
 obtain ⟨k,hk,rfl⟩:=List.mem_range'.1 hj
 have h1:=List.all_eq_true.1 ok41 (i+1*k) (List.mem_range.2 (by omega))
 unfold okH at h1
 rw[List.range'_succ,List.all_cons,Bool.and_eq_true] at h1
 exact h1.1
theorem l43_1:OpG OL43 1 228 (.binOp .add 3 (.tmp 227) (.const (.int .i64 1)) 3) none:=opG (by kernel_rfl) (by kernel_rfl) (by kernel_rfl) (by kernel_rfl)
theorem l38_1:OpG OL38 1 148 (.binOp .add 3 (.tmp 147) (.const (.int .i64 1)) 3) none:=opG (by kernel_rfl) (by kernel_rfl) (by kernel_rfl) (by kernel_rfl)
section
variable {w0:World} {al bl:Option Addr} {n c1 n2 c2 what:Nat} {lo hi:Int} {A B:Nat→Nat} {sp sv rv eqv:Value} {xb:Img}
attribute [local irreducible] OL41 CL42 in
theorem same41 (hI:LawIn w0 al n bl n2 A B) {v:WayV} {lv:List Bool} {R:List RowW} {t i:Nat} {w:World} (hin:i<n) (hC:EndW w0 v lv R sv rv eqv xb w) (ht:R[t]? = some (rowL A i)) {a:Act} (ha:zAr 233 (LC al n c1 bl n2 c2 lo hi what sp sv xb rv t i) a) {rest:Code} {Q:Exit→Act→World→Prop} (hQ:PanicF Q)
 (hn:∀ a' w',EndW w0 v lv R sv rv eqv xb w'→zAr 233 (LC al n c1 bl n2 c2 lo hi what sp sv xb rv t i) a'→rest.wp TZ Q a' w'):(Code.seq (.seq (.region 41 OL41 true) (.cond (.tmp 226) CL42 .skip)) rest).wp TZ Q a w:=by
 obtain ⟨s33,s35,s36,s37,s38,s39,s40,s41,s43,s44⟩:=sL4
 have hn50:=hI.n50
 have hAi:=hI.a i hin
 have hC1:=hC.go (left_drawn (n:=w.drawn+1))
 have htl:=zAf ht
 rcases hC1.res with ⟨h,_⟩|⟨xo,cap,hne,hrv,hcells⟩
 · rw[h] at ht; cases ht
 subst hrv
 obtain ⟨k1,vv,k2,k3⟩:=hcells t _ ht
 obtain ⟨ad,hal,hcl⟩:=hC1.cell hI.ina hin
 subst hal
 refine wp_seq (wp_seq ?_)
 refine wp_region_held (S:=fun w'=>w'.cell? ⟨xo.1,xo.2.1+t*2,none⟩=some (.int .u64 ((i+1:Nat):Int))∧w'.cell? ⟨xo.1,xo.2.1+(t*2+1),none⟩=some vv∧w'.cell? (ad.add i)=some (.int .i8 (numZ (A i)))) zBt ?_
 show wpAnyH TZ .any OL41 _ _ OL41.size (LHf OL41 0) a _
 rw[s41]
 have hS0:({ w with drawn:=w.drawn+1 }:World).cell? ⟨xo.1,xo.2.1+t*2,none⟩=some (.int .u64 ((i+1:Nat):Int))∧({ w with drawn:=w.drawn+1 }:World).cell? ⟨xo.1,xo.2.1+(t*2+1),none⟩=some vv∧({ w with drawn:=w.drawn+1 }:World).cell? (ad.add i)=some (.int .i8 (numZ (A i))):=⟨k1,k2,hcl⟩
 generalize ({ w with drawn:=w.drawn+1 }:World)=w1 at hC1 k3 hS0
 clear k1 k2 hcl hcells
 have hP:=zAq (K:=(Code.cond (.tmp 226) CL42 .skip).wp TZ (Exit.then (rest.wp TZ Q) Q)) (zAq (K:=rest.wp TZ Q) hQ)
 have hd:decide ((t:Int) ≥ (R.length:Int))=false:=decide_eq_false (by omega)
 refine hsegN (nt:=233) zAh ns41 hP hS0 28 0 4 ((198,.bool (decide ((t:Int) ≥ (R.length:Int))))::LC (some ad) n c1 bl n2 c2 lo hi what sp sv xb (.slice (some ⟨xo.1,xo.2.1,none⟩) R.length cap) t i) (by rw[s41]; rfl) (ZBs (by decide)) (fun g=>by kernel_rfl) (fun g=>by kernel_rfl) ha fun a1 ha1=>?_
 rw[hd] at ha1
 refine hsegN (nt:=233) zAh ns41 hP hS0 25 4 3 ((199,.bool false)::(200,.slice (some ⟨xo.1,xo.2.1,none⟩) R.length cap)::(201,.int .i64 (t:Int))::LC (some ad) n c1 bl n2 c2 lo hi what sp sv xb (.slice (some ⟨xo.1,xo.2.1,none⟩) R.length cap) t i) (by rw[s41]; rfl) (ZBs (by decide)) (fun g=>by kernel_rfl) (fun g=>by kernel_rfl) ha1 fun a2 ha2=>?_
 refine hhand (nt:=233) l41_7 ns41 hP (ZBs (by decide)) hS0 ((199,.bool false)::(202,.pointer (some ⟨xo.1,xo.2.1+t*2,none⟩))::LC (some ad) n c1 bl n2 c2 lo hi what sp sv xb (.slice (some ⟨xo.1,xo.2.1,none⟩) R.length cap) t i) ha2 (by decide) (fun g=>by kernel_rfl) (fun o w' _ ho=>by
  have:=run_ix2 (w:=w') tz_u67 siz69 ho htl (ha2.get (t:=200) fun f=>rfl) (ha2.get (t:=201) fun f=>rfl)
  rw[add_is] at this
  exact this) (fun g=>by kernel_rfl) fun a3 ha3=>?_
 refine hhand (nt:=233) l41_8 ns41 hP (ZBs (by decide)) hS0 ((199,.bool false)::(203,.pointer (some ⟨xo.1,xo.2.1+t*2,none⟩))::LC (some ad) n c1 bl n2 c2 lo hi what sp sv xb (.slice (some ⟨xo.1,xo.2.1,none⟩) R.length cap) t i) ha3 (by decide) (fun g=>by kernel_rfl) (fun o w' _ ho=>run_fa fld69_0 ho (ha3.get (t:=202) fun f=>rfl)) (fun g=>by kernel_rfl) fun a4 ha4=>?_
 refine hhand (nt:=233) l41_9 ns41 hP (ZBs (by decide)) hS0 ((199,.bool false)::(204,.int .u64 ((i+1:Nat):Int))::LC (some ad) n c1 bl n2 c2 lo hi what sp sv xb (.slice (some ⟨xo.1,xo.2.1,none⟩) R.length cap) t i) ha4 (by decide) (fun g=>by kernel_rfl) (fun o w' hS ho=>zCy pl59 ho (ha4.get (t:=203) fun f=>rfl) hS.1) (fun g=>by kernel_rfl) fun a5 ha5=>?_
 refine hsegN (nt:=233) zAh ns41 hP hS0 21 10 1 ((199,.bool false)::(204,.int .u64 ((i+1:Nat):Int))::(205,.int .i64 (i:Int))::LC (some ad) n c1 bl n2 c2 lo hi what sp sv xb (.slice (some ⟨xo.1,xo.2.1,none⟩) R.length cap) t i) (by rw[s41]; rfl) (ZBs (by decide)) (fun g=>by kernel_rfl) (fun g=>by kernel_rfl) ha5 fun a6 ha6=>?_
 refine hhand (nt:=233) l41_11 ns41 hP (ZBs (by decide)) hS0 ((199,.bool false)::(204,.int .u64 ((i+1:Nat):Int))::(206,.int .i64 ((i+1:Nat):Int))::LC (some ad) n c1 bl n2 c2 lo hi what sp sv xb (.slice (some ⟨xo.1,xo.2.1,none⟩) R.length cap) t i) ha6 (by decide) (fun g=>by kernel_rfl) (fun o w' _ ho=>run_inc ho (by omega) (ha6.get (t:=205) fun f=>rfl)) (fun g=>by kernel_rfl) fun a7 ha7=>?_
 refine hhand (nt:=233) l41_12 ns41 hP (ZBs (by decide)) hS0 ((199,.bool false)::(204,.int .u64 ((i+1:Nat):Int))::(207,.int .u64 ((i+1:Nat):Int))::LC (some ad) n c1 bl n2 c2 lo hi what sp sv xb (.slice (some ⟨xo.1,xo.2.1,none⟩) R.length cap) t i) ha7 (by decide) (fun g=>by kernel_rfl) (fun o w' _ ho=>run_cvU ho (by omega) (ha7.get (t:=206) fun f=>rfl)) (fun g=>by kernel_rfl) fun a8 ha8=>?_
 have hd2:(((i+1:Nat):Int) != ((i+1:Nat):Int))=false:=bne_self_eq_false _
 refine hsegN (nt:=233) zAh ns41 hP hS0 18 13 1 ((199,.bool false)::(208,.bool (((i+1:Nat):Int) != ((i+1:Nat):Int)))::LC (some ad) n c1 bl n2 c2 lo hi what sp sv xb (.slice (some ⟨xo.1,xo.2.1,none⟩) R.length cap) t i) (by rw[s41]; rfl) (ZBs (by decide)) (fun g=>by kernel_rfl) (fun g=>by kernel_rfl) ha8 fun a9 ha9=>?_
 rw[hd2] at ha9
 refine hsegN (nt:=233) zAh ns41 hP hS0 14 14 4 ((210,.bool false)::(211,.slice (some ⟨xo.1,xo.2.1,none⟩) R.length cap)::(212,.int .i64 (t:Int))::LC (some ad) n c1 bl n2 c2 lo hi what sp sv xb (.slice (some ⟨xo.1,xo.2.1,none⟩) R.length cap) t i) (by rw[s41]; rfl) (ZBs (by decide)) (fun g=>by kernel_rfl) (fun g=>by kernel_rfl) ha9 fun a10 ha10=>?_
 refine hhand (nt:=233) l41_18 ns41 hP (ZBs (by decide)) hS0 ((210,.bool false)::(213,.pointer (some ⟨xo.1,xo.2.1+t*2,none⟩))::LC (some ad) n c1 bl n2 c2 lo hi what sp sv xb (.slice (some ⟨xo.1,xo.2.1,none⟩) R.length cap) t i) ha10 (by decide) (fun g=>by kernel_rfl) (fun o w' _ ho=>by
  have:=run_ix2 (w:=w') tz_u67 siz69 ho htl (ha10.get (t:=211) fun f=>rfl) (ha10.get (t:=212) fun f=>rfl)
  rw[add_is] at this
  exact this) (fun g=>by kernel_rfl) fun a11 ha11=>?_
 refine hhand (nt:=233) l41_19 ns41 hP (ZBs (by decide)) hS0 ((210,.bool false)::(214,.pointer (some ⟨xo.1,xo.2.1+t*2+1,none⟩))::LC (some ad) n c1 bl n2 c2 lo hi what sp sv xb (.slice (some ⟨xo.1,xo.2.1,none⟩) R.length cap) t i) ha11 (by decide) (fun g=>by kernel_rfl) (fun o w' _ ho=>run_fa fld69_1 ho (ha11.get (t:=213) fun f=>rfl)) (fun g=>by kernel_rfl) fun a12 ha12=>?_
 refine hhand (nt:=233) l41_20 ns41 hP (ZBs (by decide)) hS0 ((210,.bool false)::(215,vv)::LC (some ad) n c1 bl n2 c2 lo hi what sp sv xb (.slice (some ⟨xo.1,xo.2.1,none⟩) R.length cap) t i) ha12 (by decide) (fun g=>by kernel_rfl) (fun o w' hS ho=>zCy pl49 ho (ha12.get (t:=214) fun f=>rfl) hS.2.1) (fun g=>by kernel_rfl) fun a13 ha13=>?_
 refine hsegN (nt:=233) zAh ns41 hP hS0 9 21 2 ((210,.bool false)::(215,vv)::(216,.slice (some ad) n c1)::(217,.int .i64 (i:Int))::LC (some ad) n c1 bl n2 c2 lo hi what sp sv xb (.slice (some ⟨xo.1,xo.2.1,none⟩) R.length cap) t i) (by rw[s41]; rfl) (ZBs (by decide)) (fun g=>by kernel_rfl) (fun g=>by kernel_rfl) ha13 fun a14 ha14=>?_
 refine hhand (nt:=233) l41_23 ns41 hP (ZBs (by decide)) hS0 ((210,.bool false)::(215,vv)::(218,.pointer (some (ad.add i)))::LC (some ad) n c1 bl n2 c2 lo hi what sp sv xb (.slice (some ⟨xo.1,xo.2.1,none⟩) R.length cap) t i) ha14 (by decide) (fun g=>by kernel_rfl) (fun o w' _ ho=>run_ix tz_u70 siz71 ho hin (ha14.get (t:=216) fun f=>rfl) (ha14.get (t:=217) fun f=>rfl)) (fun g=>by kernel_rfl) fun a15 ha15=>?_
 refine hhand (nt:=233) l41_24 ns41 hP (ZBs (by decide)) hS0 ((210,.bool false)::(215,vv)::(219,.int .i8 (numZ (A i)))::LC (some ad) n c1 bl n2 c2 lo hi what sp sv xb (.slice (some ⟨xo.1,xo.2.1,none⟩) R.length cap) t i) ha15 (by decide) (fun g=>by kernel_rfl) (fun o w' hS ho=>zCy pl71 ho (ha15.get (t:=218) fun f=>rfl) hS.2.2) (fun g=>by kernel_rfl) fun a16 ha16=>?_
 refine hhand (nt:=233) l41_25 ns41 hP (ZBs (by decide)) hS0 ((210,.bool false)::(215,vv)::(220,.int .i64 (numZ (A i)))::LC (some ad) n c1 bl n2 c2 lo hi what sp sv xb (.slice (some ⟨xo.1,xo.2.1,none⟩) R.length cap) t i) ha16 (by decide) (fun g=>by kernel_rfl) (fun o w' _ ho=>run_cvI ho (numZ_i8 hAi) (ha16.get (t:=219) fun f=>rfl)) (fun g=>by kernel_rfl) fun a17 ha17=>?_
 refine hsegN (nt:=233) zAh ns41 hP hS0 5 26 1 ((210,.bool false)::(215,vv)::(220,.int .i64 (numZ (A i)))::(221,.int .i64 (i:Int))::LC (some ad) n c1 bl n2 c2 lo hi what sp sv xb (.slice (some ⟨xo.1,xo.2.1,none⟩) R.length cap) t i) (by rw[s41]; rfl) (ZBs (by decide)) (fun g=>by kernel_rfl) (fun g=>by kernel_rfl) ha17 fun a18 ha18=>?_
 refine hhand (nt:=233) l41_27 ns41 hP (ZBs (by decide)) hS0 ((210,.bool false)::(215,vv)::(220,.int .i64 (numZ (A i)))::(222,.int .i64 ((i % 3:Nat):Int))::LC (some ad) n c1 bl n2 c2 lo hi what sp sv xb (.slice (some ⟨xo.1,xo.2.1,none⟩) R.length cap) t i) ha18 (by decide) (fun g=>by kernel_rfl) (fun o w' _ ho=>run_rem3 ho (ha18.get (t:=221) fun f=>rfl)) (fun g=>by kernel_rfl) fun a19 ha19=>?_
 refine hcall l41_28 rd41_28 (fun c=>(223,c)::(210,.bool false)::(215,vv)::LC (some ad) n c1 bl n2 c2 lo hi what sp sv xb (.slice (some ⟨xo.1,xo.2.1,none⟩) R.length cap) t i) ha19 (by decide) (fun g=>by kernel_rfl) (args:=[.int .i64 (numZ (A i)),.int .i64 ((i % 3:Nat):Int)]) (fun g=>by kernel_rfl) (nums_ok hC1.gs) (fun c g=>by kernel_rfl) fun c20 a20 w20 hR20 ha20=>?_
 obtain ⟨hl20,xv,rfl,hxs,hxn,hxc⟩:=hR20
 have hC20:=hC1.go hl20
 have hS20:=hS0
 refine ⟨⟨cell_left hl20 hS0.1,cell_left hl20 hS0.2.1,cell_left hl20 hS0.2.2⟩,?_⟩
 have hrow:[Value.int .i64 2,.int .i64 (numZ (A i)),.string ByteArray.empty,.int .i64 2,.int .i64 ((i % 3:Nat):Int),.string ByteArray.empty]=zBn (rowL A i):=by
  unfold zBn rowL
  rw[numZ_b]
 rw[hrow] at hxc
 have hrok:RowWOk (rowL A i):=⟨hAi,Nat.mod_lt _ (by decide),by show 1≤i+1; omega,by show i+1≤127; omega⟩
 refine hcall l41_29 rd41_29 (fun c=>(224,c)::(210,.bool false)::LC (some ad) n c1 bl n2 c2 lo hi what sp sv xb (.slice (some ⟨xo.1,xo.2.1,none⟩) R.length cap) t i) ha20 (by decide) (fun g=>by kernel_rfl) (args:=[vv,.slice (some ⟨xv.1,xv.2.1,none⟩) 2 2]) (fun g=>by kernel_rfl) (values_ok hC20.gs hrok (k3.go hl20) hxc hxs) (fun c g=>by kernel_rfl) fun c21 a21 w21 hR21 ha21=>?_
 obtain ⟨rfl,hl21⟩:=hR21
 have hl:=hl20.trans hl21
 have hS21:w21.cell? ⟨xo.1,xo.2.1+t*2,none⟩=some (.int .u64 ((i+1:Nat):Int))∧w21.cell? ⟨xo.1,xo.2.1+(t*2+1),none⟩=some vv∧w21.cell? (ad.add i)=some (.int .i8 (numZ (A i))):=⟨cell_left hl hS0.1,cell_left hl hS0.2.1,cell_left hl hS0.2.2⟩
 refine ⟨hS21,?_⟩
 refine hsegN (nt:=233) zAh ns41 hP hS21 0 30 2 ((226,.bool false)::LC (some ad) n c1 bl n2 c2 lo hi what sp sv xb (.slice (some ⟨xo.1,xo.2.1,none⟩) R.length cap) t i) (by rw[s41]; rfl) ok41_30 (fun g=>by kernel_rfl) (fun g=>by kernel_rfl) ha21 fun a22 ha22=>?_
 refine wpAnyH_done dn41 ?_ 0
 refine zCj (ha22.ev (v:=.bool false) fun f=>rfl) (fun h=>by cases h) (fun _=>Go.wp_skip ?_)
 exact hn a22 w21 (hC20.go hl21) (ha22.sub fun g=>by kernel_rfl)
end
end Go.AM
namespace Go.AM
open Go.Proofs
section
variable {w0:World} {al bl:Option Addr} {n c1 n2 c2 what:Nat} {lo hi:Int} {A B:Nat→Nat} {sp sv rv eqv:Value} {xb:Img}
attribute [local irreducible] OL37 OL38 OL39 OL40 OL41 OL43 CL42 in
theorem round3 (hI:LawIn w0 al n bl n2 A B) {md:Nat} (hmd:md<4) {lv:List Bool} (hlv:lv.length=n) {i:Nat} (hi':i≤n) {w:World} (hC:EndW w0 ⟨md,lo,hi⟩ lv ((ZAz A 0 lv).filter fun r=>ZBn ⟨md,lo,hi⟩ (numZ r.a)) sv rv eqv xb w)
 {a:Act} (ha:zAr 233 (LC al n c1 bl n2 c2 lo hi what sp sv xb rv (cntR A (fun r=>ZBn ⟨md,lo,hi⟩ (numZ r.a)) lv i) i) a) {Q:Exit→Act→World→Prop} (hQ:PanicF Q)
 (hexit:i=n→∀ a',zAr 233 (LC al n c1 bl n2 c2 lo hi what sp sv xb rv (cntR A (fun r=>ZBn ⟨md,lo,hi⟩ (numZ r.a)) lv i) i) a'→Q (.exit 5) a' w)
 (hnext:i<n→∀ a' w',EndW w0 ⟨md,lo,hi⟩ lv ((ZAz A 0 lv).filter fun r=>ZBn ⟨md,lo,hi⟩ (numZ r.a)) sv rv eqv xb w'→zAr 233 (LC al n c1 bl n2 c2 lo hi what sp sv xb rv (cntR A (fun r=>ZBn ⟨md,lo,hi⟩ (numZ r.a)) lv (i+1)) (i+1)) a'→Q .normal a' w'):LB3.wp TZ Q a w:=by
 obtain ⟨s33,s35,s36,s37,s38,s39,s40,s41,s43,s44⟩:=sL4
 have hn50:=hI.n50
 rw[lb3_is]
 generalize ht:cntR A (fun r=>ZBn ⟨md,lo,hi⟩ (numZ r.a)) lv i=t at ha hexit
 refine wp_seq (wp_seq (vreg (nt:=233) zAh s37 ((146,.bool (decide ((i:Int)<(n:Int))))::LC al n c1 bl n2 c2 lo hi what sp sv xb rv t i) (fun g=>by kernel_rfl) (fun g=>by kernel_rfl) ha fun a1 ha1=>?_))
 refine zCj (ha1.ev (v:=.bool (decide ((i:Int)<(n:Int)))) fun f=>rfl) (fun h=>Go.wp_skip ?_) (fun h=>Go.wp_exit ?_)
 rotate_left
 · have h':i=n:=by have:=of_decide_eq_false h; omega
   exact hexit h' a1 (ha1.sub fun g=>by kernel_rfl)
 have hin:i<n:=by have:=of_decide_eq_true h; omega
 obtain ⟨ad,hal,hcl⟩:=hC.cell hI.ina hin
 have hgb:∃ b,lv[i]? = some b:=⟨lv[i]'(by omega),List.getElem?_eq_getElem (by omega)⟩
 obtain ⟨b,hb⟩:=hgb
 obtain ⟨own,hB⟩:=hC.marks
 have hstep:=cnt_step (A:=A) (tb:=fun r=>ZBn ⟨md,lo,hi⟩ (numZ r.a)) hb
 rw[ht] at hstep
 have step:∀ a' w',EndW w0 ⟨md,lo,hi⟩ lv ((ZAz A 0 lv).filter fun r=>ZBn ⟨md,lo,hi⟩ (numZ r.a)) sv rv eqv xb w'→∀ t',t'=cntR A (fun r=>ZBn ⟨md,lo,hi⟩ (numZ r.a)) lv (i+1)→zAr 233 (LC al n c1 bl n2 c2 lo hi what sp sv xb rv t' i) a'→(Code.region 38 OL38 false).wp TZ Q a' w':=by
  intro a' w' hC' t' ht' ha'
  refine ZAg s38 (ZAj (nt:=233) zAh 0 1 [1,2] ((147,.int .i64 (i:Int))::(17,ptrV xb)::(18,rv)::(20,.int .i64 (t':Int))::LL al n c1 bl n2 c2 lo hi what sp sv) (by kernel_rfl) (fun g=>by kernel_rfl) (fun g=>by kernel_rfl) ha' fun a2 ha2=>?_)
  refine ZBc (nt:=233) l38_1 ((148,.int .i64 ((i+1:Nat):Int))::(17,ptrV xb)::(18,rv)::(20,.int .i64 (t':Int))::LL al n c1 bl n2 c2 lo hi what sp sv) ha2 (by decide) (fun g=>by kernel_rfl) (fun o ho=>run_inc ho (by omega) (ha2.get (t:=147) fun f=>rfl)) (fun g=>by kernel_rfl) fun a3 ha3=>?_
  refine ZAj (nt:=233) zAh 2 1 [] (LC al n c1 bl n2 c2 lo hi what sp sv xb rv t' (i+1)) (by kernel_rfl) (fun g=>by kernel_rfl) (fun g=>by kernel_rfl) ha3 fun a4 ha4=>?_
  unfold wpOps
  rw[ht'] at ha4
  exact hnext hin a4 w' hC' ha4
 have ha1':zAr 233 (LC al n c1 bl n2 c2 lo hi what sp sv xb rv t i) a1:=ha1.sub fun g=>by kernel_rfl
 refine wp_seq (wp_block ?_)
 rw[bd3_is]
 refine wp_seq (pick39 (v:=⟨md,lo,hi⟩) (z:=numZ (A i)) (b:=b) (fun ad' h=>?_) (fun _=>⟨ad,hal⟩) hin hC.box hC.eq hB hb ha1' fun a2 ha2=>?_)
 · rw[hal] at h
   cases h
   exact hcl
 rw[told_is hmd] at ha2
 have hsel:(b&&ZBn ⟨md,lo,hi⟩ (numZ (A i)))=(b&&ZBn ⟨md,lo,hi⟩ (numZ (rowL A i).a)):=rfl
 generalize hs:(b&&ZBn ⟨md,lo,hi⟩ (numZ (A i)))=sel at ha2
 have hs':(b&&ZBn ⟨md,lo,hi⟩ (numZ (rowL A i).a))=sel:=hs
 simp only[hs'] at hstep
 refine wp_seq (wp_seq (vreg (nt:=233) zAh s40 ((194,.bool (!sel))::LC al n c1 bl n2 c2 lo hi what sp sv xb rv t i) (fun g=>by kernel_rfl) (fun g=>by kernel_rfl) ha2 fun a3 ha3=>?_))
 cases sel with
 |false=>
  refine zCj (ha3.ev (v:=.bool true) fun f=>rfl) (fun _=>Go.wp_exit ?_) (fun h=>by cases h)
  show Code.wp TZ (.region 38 OL38 false) Q a3 w
  exact step a3 w hC t (by rw[hstep]; rfl) (ha3.sub fun g=>by kernel_rfl)
 |true=>
  refine zCj (ha3.ev (v:=.bool false) fun f=>rfl) (fun h=>by cases h) (fun _=>Go.wp_skip ?_)
  rw[Bool.and_eq_true] at hs
  obtain ⟨hbt,htold⟩:=hs
  subst hbt
  have hget:=cnt_get (A:=A) (tb:=fun r=>ZBn ⟨md,lo,hi⟩ (numZ r.a)) hb htold
  rw[ht] at hget
  have ha3':zAr 233 (LC al n c1 bl n2 c2 lo hi what sp sv xb rv t i) a3:=ha3.sub fun g=>by kernel_rfl
  refine same41 hI hin hC hget ha3' (panic_block (zAq hQ)) fun a4 w4 hC4 ha4=>?_
  have ht50:t<1000:=by
   have h1:=zAf hget
   have h2:=List.length_filter_le (fun r=>ZBn ⟨md,lo,hi⟩ (numZ r.a)) (ZAz A 0 lv)
   have h3:=rowsF_len A lv 0
   omega
  refine ZAg s43 (ZAj (nt:=233) zAh 0 1 [1,2] ((227,.int .i64 (t:Int))::(17,ptrV xb)::(18,rv)::(21,.int .i64 (i:Int))::LL al n c1 bl n2 c2 lo hi what sp sv) (by kernel_rfl) (fun g=>by kernel_rfl) (fun g=>by kernel_rfl) ha4 fun a5 ha5=>?_)
  refine ZBc (nt:=233) l43_1 ((228,.int .i64 ((t+1:Nat):Int))::(17,ptrV xb)::(18,rv)::(21,.int .i64 (i:Int))::LL al n c1 bl n2 c2 lo hi what sp sv) ha5 (by decide) (fun g=>by kernel_rfl) (fun o ho=>run_inc ho ht50 (ha5.get (t:=227) fun f=>rfl)) (fun g=>by kernel_rfl) fun a6 ha6=>?_
  refine ZAj (nt:=233) zAh 2 1 [] (LC al n c1 bl n2 c2 lo hi what sp sv xb rv (t+1) i) (by kernel_rfl) (fun g=>by kernel_rfl) (fun g=>by kernel_rfl) ha6 fun a7 ha7=>?_
  unfold wpOps
  show Code.wp TZ (.region 38 OL38 false) Q a7 w4
  exact step a7 w4 hC4 (t+1) (by rw[hstep]; rfl) ha7
end
def isPt:Option TypeDesc→Bool
 |some (.pointer _)=>true
 |_=>false
theorem isPt_ok {o:Option TypeDesc} (h:isPt o=true):∃ e,o=some (.pointer e):=by
 unfold isPt at h
 split at h
 · exact ⟨_,rfl⟩
 · cases h
theorem pt24:isPt (TZ.underlying 24)=true:=by kernel_rfl
theorem run_eqp {a:Act} {w:World} {o:Oper} {x:Nat} (h:o.op=.binOp .eql 24 (.tmp x) (.const (.pointer none)) 24) {ad:Addr} (hx:a.tmps.getD x undef=.pointer (some ad)):(execOp a.eval o).run TZ w=.ok (.value (.bool false)) w:=by
 letI:=tok0
 obtain ⟨e,hd⟩:=isPt_ok pt24
 have h1:(Op.equal 24 (.pointer (some ad)) (.pointer none)).run TZ w=.ok false w:=by rw[equal_eq]; simp[Op.equalIn,zAz hd]
 obtain ⟨h2,_⟩:=binEq_run rfl h1
 have hg:(eqGuard .eql 24 (.tmp x) (.const (.pointer none)) (.pointer (some ad)) (.pointer none)).run TZ w=.ok () w:=zBs w (by simp) (by simp) .eql
 simp only[execOp,h]
 refine zAg ?_
 simp only[Act.eval,hx]
 simp[hg,h2]
end Go.AM
