/- For TableWays: BtW3 BtW4 BtAl. -/
import Derived.Test.YtggjomdndfacgaaGreatDoorWm3
set_option linter.unusedSectionVars false
set_option linter.unusedVariables false
set_option linter.unusedSimpArgs false
noncomputable section
namespace Go.AM
variable {P:Program}
def IsUp (kb:List UInt8) (l:List Ent) (r:Option Ent):Prop:=match r with
 |none=>∀ x,x∈l→¬ Lt kb x.kb
 |some x=>x∈l∧Lt kb x.kb∧∀ y,y∈l→Lt kb y.kb→y=x∨Lt x.kb y.kb
structure LocW (e:Nat) (kb:List UInt8) (sg:Sigs) (c:Nat) (f:Value) (es:List Ent) (p:Nat):Prop where
 at_:sg[c]? = some (f,es)
 le:p≤es.length
 lt1:e=1→p<es.length
 zero:e=2→p=0∧c=0∧kb=[]
 ne:e≠2→kb≠[]
 e2:e≤2
 side:SideW e p kb es
 pos:e=0→0<c→0<p
 lo:∀ i s,i<c→sg[i]? = some s→∀ x,x∈s.2→Lt x.kb kb
 hi:∀ i s,c<i→sg[i]? = some s→∀ x,x∈s.2→Lt kb x.kb
structure WRuns (P:Program) (G fn:Nat) (KW:Nat→Nat→Nat→Nat→Nat→Nat→KH) (N:Nat):Prop where
 glob:P.globals.size=G
 pos:0<G
 le:G≤60000
 sound:∀ (T:Tok) e m c s s2 p,T.strong=true→CmpW T e m c s s2 p→@zBb T P (KW e m c s s2 p)
 nextL:∀ e s p,e≤2→s≤16→p≤s→(e=1→p<s)→(e=2→p=0)→nextLW (KW e 0 0 s 0 p) fn G e s p=true
 nextN:∀ e m c s p,e≤2→2≤m→c<m→8≤s→s≤16→8*(m-1)+s≤N→p≤s→(e=1→p<s)→(e=2→p=0∧c=0)→upW e p<s∨c+1=m→nextNW (KW e m c s 0 p) fn G e m c s 0 p=true
 nextE:∀ e m c s s2 p,e≤1→c+1<m→8≤s→s≤16→8≤s2→s2≤16→8*(m-2)+s+s2≤N→upW e p=s→(e=1→p<s)→nextNW (KW e m c s s2 p) fn G e m c s s2 p=true
theorem leafW_lo {e p j:Nat} (h:j<upW e p):leafW e p j≠.gt:=by
 unfold upW at h
 unfold leafW
 simp only[zAn,zAd,Bool.and_eq_true,beq_true] at h ⊢
 split at h
 · rename_i h1
   have h':j<p+1:=h
   split
   · intro h; cases h
   · rename_i h2
     have h2':¬ j+1≤p:=h2
     rw[if_pos ⟨h1,by omega⟩]; intro h; cases h
 · have h2:j+1≤p:=h
   rw[if_pos h2]; intro h; cases h
theorem leafW_hi {e p j:Nat} (h:upW e p≤j):leafW e p j=.gt:=by
 unfold upW at h
 unfold leafW
 simp only[zAn,zAd,Bool.and_eq_true,beq_true] at h ⊢
 split at h
 · have h':p+1≤j:=h
   rw[if_neg (by show ¬ j+1≤p; omega),if_neg (by omega)]
 · rename_i h1
   rw[if_neg (by show ¬ j+1≤p; omega),if_neg (fun hh=>h1 hh.1)]
theorem not_lt_of {a b:List UInt8} {t:OrdW} (h:lexC a b=ordI t) (ht:t≠.gt):¬ Lt b a:=by
 intro hl
 have h1:lexC b a = -1:=hl
 rw[lexC_swap a b,h] at h1
 cases t
 · exact absurd h1 (by decide)
 · exact absurd h1 (by decide)
 · exact ht rfl
theorem Lt.nlt {a b:List UInt8} (h:Lt a b):¬ Lt b a:=fun h'=>by
 have:=h.trans h'
 have e:=lexC_refl a
 unfold Lt at this
 rw[e] at this; cases this
theorem firstsW {H:Heap} {ls:List Kid} (hI:TInv (ls.map sig)) (hk:∀ K,K∈ls→KidAt H K) {e:Nat} {kb:List UInt8} {c p:Nat} {f:Value} {es:List Ent} (hl:LocW e kb (ls.map sig) c f es p):FirstsW H e c p kb ls:=by
 intro i L hi
 have hs:(ls.map sig)[i]? = some (sig L):=by rw[List.getElem?_map,hi]; rfl
 have hL:=hk L (List.mem_of_getElem? hi)
 have kid:∀ t,(c<i→t=.gt)→(i<c→t=.lt)→(i=c→t=if e=2∨e=1∧p=0∧1≤c then .eq else .lt)→kidW e c p i=t:=by
  intro t h1 h2 h3
  unfold kidW
  simp only[zAn,zAd,beq_true,Bool.or_eq_true,Bool.and_eq_true]
  split
  · rename_i h; have h':c+1≤i:=h; exact (h1 (by omega)).symm
  · rename_i h
    have h':¬ c+1≤i:=h
    split
    · rename_i h4; rw[h3 h4]
    · exact (h2 (by omega)).symm
 rcases Nat.eq_zero_or_pos i with h0|h0
 · subst h0
   have hf:L.f=nilS:=hI.first _ hs
   refine ⟨[],by rw[hf]; exact .inl ⟨rfl,rfl⟩,?_⟩
   by_cases h2:e=2
   · obtain ⟨z1,z2,z3⟩:=hl.zero h2
     rw[kid .eq (fun h=>by omega) (fun h=>by omega) (fun _=>by rw[if_pos (.inl h2)]),z3]
     rfl
   · rw[kid .lt (fun h=>by omega) (fun _=>rfl) (fun h=>by rw[if_neg (by omega)])]
     exact Lt.nil (hl.ne h2)
 · obtain ⟨a,r,k1,k2⟩:=hI.firsts i _ h0 hs
   have k1':L.es=a::r:=k1
   have k2':L.f=a.k:=k2
   have ha:a∈L.es:=by rw[k1']; exact List.mem_cons_self ..
   refine ⟨a.kb,by rw[k2']; exact (hL.2.2.1 a ha).1,?_⟩
   rcases Nat.lt_trichotomy i c with h|h|h
   · rw[kid .lt (fun h=>by omega) (fun _=>rfl) (fun h=>by omega)]
     exact hl.lo i _ h hs a ha
   · subst h
     have hat:=hl.at_
     rw[hs] at hat
     have e1:L.es=es:=by injection hat with hat; exact congrArg Prod.snd hat
     have h1:=hl.side 0 a (by rw[← e1,k1']; rfl)
     rw[h1]
     have hlv:leafW e p 0=kidW e i p i:=by
      rw[kid (if e=2∨e=1∧p=0∧1≤i then .eq else .lt) (fun h=>by omega) (fun h=>by omega) (fun _=>rfl)]
      unfold leafW
      simp only[zAn,zAd,beq_true,Bool.and_eq_true]
      have hz:=hl.zero
      by_cases he:e=2
      · obtain ⟨_,z2,_⟩:=hz he
        omega
      · have hps:=hl.pos
        split
        · rename_i h2
          have h2':0+1≤p:=h2
          rw[if_neg (by omega)]
        · rename_i h2
          have h2':¬ 0+1≤p:=h2
          have he0:¬ e=0:=fun h3=>by have:=hps h3 h0; omega
          have hee:=hl.e2
          rw[if_pos ⟨by omega,by omega⟩,if_pos (.inr ⟨by omega,by omega,by omega⟩)]
     rw[hlv]
   · rw[kid .gt (fun _=>rfl) (fun h=>by omega) (fun h=>by omega)]
     exact (hl.hi i _ h hs a ha).gt
theorem tree_up {G fn N:Nat} {KW:Nat→Nat→Nat→Nat→Nat→Nat→KH} (R:WRuns P G fn KW N) (hN90:N≤700) {w:World} (hgs:G≤w.heap.size) {H:Heap} (hH:In H w) {root:Value} {sg:Sigs} {k:Value} {kb:List UInt8} (h:TreeIs H root sg) (hI:TInv sg) (hN:(zAo sg).length≤N) (hk:zAy H k kb)
 {e c p:Nat} {f:Value} {es:List Ent} (hl:LocW e kb sg c f es p):Ends P fn #[root,k,.bool (Nat.beq e 1)] w fun cv w'=>ZAb w w'∧∃ r,Told cv r∧IsUp kb (zAo sg) r:=by
 have hs16:=hI.small _ (List.mem_of_getElem? hl.at_)
 have hsorted:=hI.sorted
 rw[ZCg hl.at_] at hsorted
 obtain ⟨s1,s2,s3⟩:=List.pairwise_append.1 hsorted
 obtain ⟨s4,s5,s6⟩:=List.pairwise_append.1 s1
 have hlo:∀ x,x∈zAo (sg.take c)→¬ Lt kb x.kb:=by
  intro x hx
  obtain ⟨s,hs,hxs⟩:=List.mem_flatMap.1 hx
  obtain ⟨i,hi,rfl⟩:=List.getElem_of_mem hs
  have h1:=List.getElem?_eq_getElem hi
  rw[List.getElem?_take] at h1
  split at h1
  · rename_i hic
    exact (hl.lo i _ hic h1 x hxs).nlt
  · cases h1
 have hhi:∀ x,x∈zAo (sg.drop (c+1))→Lt kb x.kb:=by
  intro x hx
  obtain ⟨s,hs,hxs⟩:=List.mem_flatMap.1 hx
  obtain ⟨i,hi,rfl⟩:=List.getElem_of_mem hs
  have h1:=List.getElem?_eq_getElem hi
  rw[List.getElem?_drop] at h1
  exact hl.hi _ _ (by omega) h1 x hxs
 have side_lo:∀ j (hj:j<es.length),j<upW e p→¬ Lt kb es[j].kb:=fun j hj h=>not_lt_of (hl.side j _ (List.getElem?_eq_getElem hj)) (leafW_lo h)
 have side_hi:∀ j (hj:j<es.length),upW e p≤j→Lt kb es[j].kb:=fun j hj h=>by
  have:=hl.side j _ (List.getElem?_eq_getElem hj)
  rw[leafW_hi h] at this
  exact Lt.of_gt this
 have here:∀ hp:upW e p<es.length,IsUp kb (zAo sg) es[upW e p]?:=by
  intro hp
  rw[List.getElem?_eq_getElem hp]
  refine ⟨by rw[ZCg hl.at_]; exact List.mem_append.2 (.inl (List.mem_append.2 (.inr (List.getElem_mem hp)))),side_hi _ hp (Nat.le_refl _),fun y hy hky=>?_⟩
  rw[ZCg hl.at_] at hy
  rcases List.mem_append.1 hy with hy|hy
  · rcases List.mem_append.1 hy with hy|hy
    · exact (hlo y hy hky).elim
    · obtain ⟨j,hj,rfl⟩:=List.getElem_of_mem hy
      rcases Nat.lt_or_ge j (upW e p) with hjp|hjp
      · exact (side_lo j hj hjp hky).elim
      · rcases Nat.lt_or_eq_of_le hjp with hjp|hjp
        · exact .inr (List.pairwise_iff_getElem.1 s5 _ j hp hj hjp)
        · left; congr 1; exact hjp.symm
  · exact .inr (s3 _ (List.mem_append.2 (.inr (List.getElem_mem hp))) y hy)
 have below:es.length≤upW e p→∀ x,x∈zAo (sg.take c)++es→¬ Lt kb x.kb:=by
  intro hp x hx
  rcases List.mem_append.1 hx with hx|hx
  · exact hlo x hx
  · obtain ⟨j,hj,rfl⟩:=List.getElem_of_mem hx
    exact side_lo j hj (by omega)
 cases h with
 |one x f' es' h1 h2 h3 h4 h5=>
  subst h1
  subst h2
  have hc0:c=0:=by have:=zAf hl.at_; simp at this; omega
  subst hc0
  have hat:=hl.at_
  simp only[List.getElem?_cons_zero,Option.some.injEq,Prod.mk.injEq] at hat
  obtain ⟨rfl,rfl⟩:=hat
  refine (nextLW_ok R.glob R.pos R.le hgs hH (fun T hst hc=>R.sound T _ _ _ _ _ _ hst hc) (R.nextL e _ p hl.e2 hs16 hl.le hl.lt1 (fun h=>(hl.zero h).1)) hs16 hl.le h3 h4 h5 hk hl.side).mono fun cv w' ⟨hleft,ht⟩=>⟨hleft,_,ht,?_⟩
  rcases Nat.lt_or_ge (upW e p) es'.length with hp|hp
  · exact here hp
  · rw[List.getElem?_eq_none hp]
    intro x hx
    refine below hp x ?_
    have e1:zAo [(f',es')]=es':=by simp[zAo]
    rw[e1] at hx
    exact List.mem_append.2 (.inr hx)
 |many x f0 ls h1 h2 h3 h4 h5=>
  subst h1
  subst h2
  have hat:=hl.at_
  rw[List.getElem?_map] at hat
  cases hK:ls[c]? with
  |none=>rw[hK] at hat; cases hat
  |some Kc=>
   rw[hK] at hat
   simp only[Option.map_some,Option.some.injEq] at hat
   have hf:Kc.f=f:=congrArg Prod.fst hat
   have hes:Kc.es=es:=congrArg Prod.snd hat
   subst hf
   subst hes
   have hml:(ls.map sig).length=ls.length:=List.length_map _
   have hbig:=hI.big (by rw[hml]; exact h5)
   have h8:8≤Kc.es.length:=hbig _ (List.mem_of_getElem? hl.at_)
   have hcl:=zAf hK
   have hsum:=len_one hbig hl.at_
   rw[hml] at hsum
   have hkids:∀ K,K∈ls→KidAt H K:=by obtain ⟨_,_,_,t⟩:=h4; exact t
   have hF:=firstsW hI hkids hl
   have hz2:e=2→p=0∧c=0:=fun h=>⟨(hl.zero h).1,(hl.zero h).2.1⟩
   have run0:upW e p<Kc.es.length∨c+1=ls.length→Ends P fn #[ptrV x,k,.bool (Nat.beq e 1)] w fun cv w'=>ZAb w w'∧Told cv (if upW e p<Kc.es.length then Kc.es[upW e p]? else ([]:List Ent)[0]?):=fun hcase=>
    nextNW_ok R.glob R.pos R.le hgs hH h4 hK (.inl rfl) (fun T hst hc=>R.sound T _ _ _ _ _ _ hst hc) (R.nextN e _ c _ p hl.e2 h5 hcl h8 hs16 (by omega) hl.le hl.lt1 hz2 hcase) (by omega) hs16 (Nat.zero_le _) hl.le (by omega) h3 hk hl.side (fun x h=>by cases h) hF
   rcases Nat.lt_or_ge (upW e p) Kc.es.length with hp|hp
   · refine (run0 (.inl hp)).mono fun cv w' ⟨hleft,ht⟩=>⟨hleft,_,ht,?_⟩
     rw[if_pos hp]; exact here hp
   · rcases Nat.lt_or_ge (c+1) ls.length with hc1|hc1
     ·
      have hK2:=List.getElem?_eq_getElem hc1
      have hs2:(ls.map sig)[c+1]? = some (sig ls[c+1]):=by rw[List.getElem?_map,hK2]; rfl
      have h82:8≤ls[c+1].es.length:=hbig _ (List.mem_of_getElem? hs2)
      have hs162:ls[c+1].es.length≤16:=hI.small _ (List.mem_of_getElem? hs2)
      have hsum2:=len_two hbig hl.at_ hs2
      rw[hml] at hsum2
      have hsum2':8*(ls.length-2)+Kc.es.length+ls[c+1].es.length≤(zAo (ls.map sig)).length:=hsum2
      have hup:=upW_le (e:=e) hl.le
      have he1:e≤1:=by
       have:=hl.e2
       rcases Nat.lt_or_ge e 2 with h|h
       · omega
       · have h2:e=2:=by omega
         have:=(hz2 h2).1
         rw[h2,this] at hp
         have:upW 2 0=0:=rfl
         omega
      have hupe:upW e p=Kc.es.length:=by
       have h1:=hl.le
       have h2:=hl.lt1
       unfold upW at hp ⊢
       rw[zAn] at hp ⊢
       split at hp
       · rename_i h3
         rw[beq_true] at h3
         have:=h2 h3
         have hp':Kc.es.length≤p+1:=hp
         rw[if_pos (beq_true.2 h3)]
         show p+1=_
         omega
       · rename_i h3
         rw[if_neg h3]; omega
      have hx2:∀ x,x∈ls[c+1].es→Lt kb x.kb:=hl.hi (c+1) _ (by omega) hs2
      refine (nextNW_ok R.glob R.pos R.le hgs hH h4 hK (.inr ⟨_,hK2,rfl,by omega⟩) (fun T hst hc=>R.sound T _ _ _ _ _ _ hst hc) (R.nextE e _ c _ _ p he1 hc1 h8 hs16 h82 hs162 (by omega) hupe hl.lt1) (by omega) hs16 hs162 hl.le (by omega) h3 hk hl.side (fun x hx=>(hx2 x hx).gt) hF).mono fun cv w' ⟨hleft,ht⟩=>⟨hleft,_,ht,?_⟩
      rw[if_neg (by omega)]
      have hp0:0<ls[c+1].es.length:=by omega
      rw[List.getElem?_eq_getElem hp0]
      refine ⟨mem_all hs2 (List.getElem_mem hp0),hx2 _ (List.getElem_mem hp0),fun y hy hky=>?_⟩
      rw[ZCg hl.at_] at hy
      rcases List.mem_append.1 hy with hy|hy
      · exact (below hp y hy hky).elim
      · have hd0:((ls.map sig).drop (c+1))[0]? = some (sig ls[c+1]):=by rw[List.getElem?_drop]; exact hs2
        have hsp:=ZCg hd0
        rw[List.take_zero] at hsp
        have hsp':zAo ((ls.map sig).drop (c+1))=ls[c+1].es++zAo (((ls.map sig).drop (c+1)).drop 1):=by
         rw[hsp]; simp[zAo]
        rw[hsp'] at hy s2
        obtain ⟨t1,t2,t3⟩:=List.pairwise_append.1 s2
        rcases List.mem_append.1 hy with hy|hy
        · obtain ⟨j,hj,rfl⟩:=List.getElem_of_mem hy
          rcases Nat.eq_zero_or_pos j with hj0|hj0
          · subst hj0; exact .inl rfl
          · exact .inr (List.pairwise_iff_getElem.1 t1 0 j hp0 hj hj0)
        · exact .inr (t3 _ (List.getElem_mem hp0) y hy)
     · refine (run0 (.inr (by omega))).mono fun cv w' ⟨hleft,ht⟩=>⟨hleft,_,ht,?_⟩
       rw[if_neg (by omega)]
       intro y hy
       rw[ZCg hl.at_] at hy
       rcases List.mem_append.1 hy with hy|hy
       · exact below hp y hy
       · have:(ls.map sig).drop (c+1)=[]:=List.drop_eq_nil_of_le (by omega)
         rw[this] at hy; cases hy
end Go.AM
namespace Go.AM
open Go.Proofs
theorem locW0 {sg:Sigs} (hI:TInv sg) {kb:List UInt8} (hne:kb≠[]) (hnew:∀ x,x∈zAo sg→x.kb≠kb):∃ c f es p,LocW 0 kb sg c f es p:=by
 obtain ⟨c,f,es,p,hl⟩:=locate hI.ne hI.sorted hnew fun i s hi hs=>by
  obtain ⟨a,r,k1,_⟩:=hI.firsts i s hi hs
  rw[k1]; simp
 refine ⟨c,f,es,p,hl.at_,hl.le,fun h=>(by cases h),fun h=>(by cases h),fun _=>hne,by decide,fun j x hj=>?_,fun _=>hl.pos,hl.lo,hl.hi⟩
 obtain ⟨h1,h2⟩:=hl.side j x hj
 unfold leafW
 simp only[zAn,zAd]
 split
 · rename_i h; exact h1 h
 · rename_i h
   have h':¬ j+1≤p:=h
   exact h2 (by omega)
theorem allOf_at {sg:Sigs} {x:Ent} (h:x∈zAo sg):∃ (c:Nat) (f:Value) (es:List Ent) (p:Nat),sg[c]? = some (f,es)∧es[p]? = some x:=by
 obtain ⟨s,hs,hx⟩:=List.mem_flatMap.1 h
 obtain ⟨c,hc,rfl⟩:=List.getElem_of_mem hs
 obtain ⟨p,hp,hpx⟩:=List.getElem_of_mem hx
 exact ⟨c,sg[c].1,sg[c].2,p,List.getElem?_eq_getElem hc,by rw[List.getElem?_eq_getElem hp,hpx]⟩
theorem lo_of {sg:Sigs} (hs:Sorted (zAo sg)) {c:Nat} {f:Value} {es:List Ent} (hc:sg[c]? = some (f,es)):(∀ i s,i<c→sg[i]? = some s→∀ x,x∈s.2→∀ y,y∈es→Lt x.kb y.kb)∧(∀ i s,c<i→sg[i]? = some s→∀ x,x∈s.2→∀ y,y∈es→Lt y.kb x.kb)∧Sorted es:=by
 unfold Sorted at hs
 rw[ZCg hc] at hs
 obtain ⟨s1,s2,s3⟩:=List.pairwise_append.1 hs
 obtain ⟨s4,s5,s6⟩:=List.pairwise_append.1 s1
 refine ⟨fun i s hi hsi x hx y hy=>?_,fun i s hi hsi x hx y hy=>?_,s5⟩
 · refine s6 x (List.mem_flatMap.2 ⟨s,?_,hx⟩) y hy
   exact List.mem_of_getElem? (i:=i) (by rw[List.getElem?_take,if_pos hi]; exact hsi)
 · refine s3 y (List.mem_append.2 (.inr hy)) x (List.mem_flatMap.2 ⟨s,?_,hx⟩)
   exact List.mem_of_getElem? (i:=i-(c+1)) (by rw[List.getElem?_drop,show c+1+(i-(c+1))=i by omega]; exact hsi)
theorem locW1 {sg:Sigs} (hI:TInv sg) {x:Ent} (hx:x∈zAo sg):∃ c f es p,LocW 1 x.kb sg c f es p:=by
 obtain ⟨c,f,es,p,hc,hp⟩:=allOf_at hx
 obtain ⟨h1,h2,h3⟩:=lo_of hI.sorted hc
 have hpl:=zAf hp
 have hxe:=List.mem_of_getElem? hp
 have hpe:es[p]=x:=by rw[List.getElem?_eq_getElem hpl] at hp; exact Option.some.inj hp
 refine ⟨c,f,es,p,hc,Nat.le_of_lt hpl,fun _=>hpl,fun h=>(by cases h),fun _=>hI.keys x hx,by decide,fun j y hj=>?_,fun h=>(by cases h),fun i s hi hs y hy=>h1 i s hi hs y hy x hxe,fun i s hi hs y hy=>h2 i s hi hs y hy x hxe⟩
 have hjl:=zAf hj
 have hje:es[j]=y:=by rw[List.getElem?_eq_getElem hjl] at hj; exact Option.some.inj hj
 unfold leafW
 simp only[zAn,zAd,Bool.and_eq_true,beq_true,true_and]
 split
 · rename_i h
   have h':j+1≤p:=h
   have:=List.pairwise_iff_getElem.1 h3 j p hjl hpl (by omega)
   rw[hje,hpe] at this
   exact this
 · rename_i h
   have h':¬ j+1≤p:=h
   split
   · rename_i e
     subst e
     have e:y=x:=by rw[← hje,hpe]
     subst e
     exact lexC_refl _
   · rename_i hne
     have:=List.pairwise_iff_getElem.1 h3 p j hpl hjl (by omega)
     rw[hje,hpe] at this
     exact this.gt
theorem locW2 {sg:Sigs} (hI:TInv sg):∃ f es,LocW 2 [] sg 0 f es 0:=by
 have hpos:0<sg.length:=by
  cases hs:sg with
  |nil=>exact absurd hs hI.ne
  |cons s l=>simp
 have hc:=List.getElem?_eq_getElem hpos
 have hk:∀ (i:Nat) (s:Value×List Ent),sg[i]? = some s→∀ x,x∈s.2→Lt [] x.kb:=fun i s hs x hx=>Lt.nil (hI.keys x (mem_all hs hx))
 refine ⟨sg[0].1,sg[0].2,hc,Nat.zero_le _,fun h=>(by cases h),fun _=>⟨rfl,rfl,rfl⟩,fun h=>absurd rfl h,by decide,fun j x hj=>?_,fun h=>(by cases h),fun i s hi=>(by omega),fun i s _ hs x hx=>hk i s hs x hx⟩
 have:leafW 2 0 j=.gt:=leafW_hi (by show upW 2 0≤j; exact Nat.zero_le j)
 rw[this]
 exact (hk 0 _ hc x (List.mem_of_getElem? hj)).gt
def XW (e m c s s2 p:Nat):Stand:=fun f=>match f with
 |224=>some ⟨cmpW e m c s s2 p⟩
 |_=>none
def KW (e m c s s2 p:Nat):KH:=callX TZ E1 (XW e m c s s2 p) 60
theorem kw_ok (T:Tok) (e m c s s2 p:Nat) (hst:T.strong=true) (hc:CmpW T e m c s s2 p):@zBb T TZ (KW e m c s s2 p):=by
 refine callX_ok zBt tz_gprog tz_ext (fun f g h=>?_) 60
 unfold XW at h
 split at h
 · cases h; exact cmpW_ok hc (tz_ext 224 .compare rfl)
 · cases h
def placesW (e s:Nat):Nat:=zAc 1 (zAc s (Nat.succ s) (Nat.beq e 1)) (Nat.beq e 2)
def wL (e s:Nat):Bool:=allLt (fun p=>nextLW (KW e 0 0 s 0 p) 83 2 e s p) (placesW e s)
def wN (e m c s:Nat):Bool:=allLt (fun p=>or (not (or (Nat.ble (Nat.succ (upW e p)) s) (Nat.beq (Nat.succ c) m))) (nextNW (KW e m c s 0 p) 83 2 e m c s 0 p)) (placesW e s)
def wE (e m c s:Nat):Bool:=allLt (fun j=>nextNW (KW e m c s (Nat.add 8 j) (Nat.sub s e)) 83 2 e m c s (Nat.add 8 j) (Nat.sub s e)) 9
end Go.AM
namespace Go.AM
def al2 (f:Nat→Nat→Bool) (x:Nat×Nat):Bool:=f x.1 x.2
def al3 (f:Nat→Nat→Nat→Bool) (x:Nat×Nat×Nat):Bool:=f x.1 x.2.1 x.2.2
def al4 (f:Nat→Nat→Nat→Nat→Bool) (x:Nat×Nat×Nat×Nat):Bool:=f x.1 x.2.1 x.2.2.1 x.2.2.2
theorem zAb {α:Type} {f:α→Bool} {l l':List α} (h:l.all f=true) (h':l'.all f=true):(l++l').all f=true:=by
 rw[List.all_append,h,h']; rfl
def cov1 (l:List Nat) (n:Nat):Bool:=(List.range n).all fun a=>l.contains a
def cov2 (l:List (Nat×Nat)) (n m:Nat) (p:Nat→Nat→Bool):Bool:=(List.range n).all fun a=>(List.range m).all fun b=>!(p a b)||l.contains (a,b)
def cov3 (l:List (Nat×Nat×Nat)) (n m k:Nat) (p:Nat→Nat→Nat→Bool):Bool:=(List.range n).all fun a=>(List.range m).all fun b=>(List.range k).all fun c=>!(p a b c)||l.contains (a,b,c)
def cov4 (l:List (Nat×Nat×Nat×Nat)) (n m k j:Nat) (p:Nat→Nat→Nat→Nat→Bool):Bool:=(List.range n).all fun a=>(List.range m).all fun b=>(List.range k).all fun c=>(List.range j).all fun d=>!(p a b c d)||l.contains (a,b,c,d)
theorem rng {n:Nat} {f:Nat→Bool} (h:(List.range n).all f=true) {a:Nat} (ha:a<n):f a=true:=List.all_eq_true.1 h a (List.mem_range.2 ha)
theorem imp_b {p q:Bool} (h:(!p||q)=true) (hp:p=true):q=true:=by subst hp; simpa using h
theorem pick1 {f:Nat→Bool} {l:List Nat} (h:l.all f=true) (n:Nat) (hc:cov1 l n=true) {a:Nat} (ha:a<n):f a=true:=
 List.all_eq_true.1 h a (List.contains_iff_mem.1 (rng hc ha))
theorem pick2 {f:Nat→Nat→Bool} {l:List (Nat×Nat)} (h:l.all (al2 f)=true) (n m:Nat) (p:Nat→Nat→Bool) (hc:cov2 l n m p=true) {a b:Nat} (ha:a<n) (hb:b<m) (hp:p a b=true):f a b=true:=
 List.all_eq_true.1 h (a,b) (List.contains_iff_mem.1 (imp_b (rng (rng hc ha) hb) hp))
theorem pick3 {f:Nat→Nat→Nat→Bool} {l:List (Nat×Nat×Nat)} (h:l.all (al3 f)=true) (n m k:Nat) (p:Nat→Nat→Nat→Bool) (hc:cov3 l n m k p=true) {a b c:Nat} (ha:a<n) (hb:b<m) (hk:c<k) (hp:p a b c=true):f a b c=true:=
 List.all_eq_true.1 h (a,b,c) (List.contains_iff_mem.1 (imp_b (rng (rng (rng hc ha) hb) hk) hp))
theorem pick4 {f:Nat→Nat→Nat→Nat→Bool} {l:List (Nat×Nat×Nat×Nat)} (h:l.all (al4 f)=true) (n m k j:Nat) (p:Nat→Nat→Nat→Nat→Bool) (hc:cov4 l n m k j p=true) {a b c d:Nat} (ha:a<n) (hb:b<m) (hk:c<k) (hd:d<j) (hp:p a b c d=true):f a b c d=true:=
 List.all_eq_true.1 h (a,b,c,d) (List.contains_iff_mem.1 (imp_b (rng (rng (rng (rng hc ha) hb) hk) hd) hp))
end Go.AM
